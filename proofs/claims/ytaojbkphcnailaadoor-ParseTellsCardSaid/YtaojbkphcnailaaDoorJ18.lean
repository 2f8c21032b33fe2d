import Derived.Test.YtaojbkphcnailaaDoorJ12
import Derived.Test.YtaojbkphcnailaaDoorJ17
namespace Go.Proofs.YtaojbkphcnailaaDoor
open Go.Sx
set_option maxRecDepth 20000
set_option linter.unusedSimpArgs false
set_option linter.unusedVariables false
set_option maxHeartbeats 4000000
set_option linter.unusedVariables false
namespace Ps
def Got27 (F:Heap) (v:Value) (l:List Lx.T) (b:Nat) (i:Nat) (q:R Po.T) (r:AV) (m:List Blk):Prop :=
  ∃ p j G pu u,q = .ok p j∧i≤j∧j<l.length∧F.le G∧Po.At G p pu u∧r = .agg (Po.cs p pu u)∧m=[hpB G,pB b v l.length j]
def P27 (v:Value) (l:List Lx.T) (f:FuncId) (q:R Po.T) (i:Nat):Prop :=
  ∀ (F:Heap) (b:Nat),Toks F v l→NCallX Tryd.prog f [.ptr 1 ⟨b,0,none⟩ 0] [hpB F,pB b v l.length i] (fun r m=>Got27 F v l b i q r m) (fun ch m=>Bad F v l b q ch m)
def Got27L (F:Heap) (v:Value) (l:List Lx.T) (b:Nat) (i:Nat) (q:R (List Po.T)) (r:AV) (m:List Blk):Prop :=
  ∃ xs j G u,q = .ok xs j∧i≤j∧j<l.length∧F.le G∧Po.Row G u xs∧r = .hs u xs.length∧m=[hpB G,pB b v l.length j]
end Ps
theorem chain27_c (v:Value) (l:List Lx.T) (hl:Ps.Good l) (s:List UInt8) (g:FuncId) (sp:Nat→Ps.R Po.T) (i0:Nat) (hi0:i0<l.length) (hg:∀ i,i0≤i→i<l.length→Ps.P27 v l g (sp i) i) (F:Heap) (b:Nat) (hv:Ps.Toks F v l) :
    NCallX Tryd.prog 59 [.ptr 1 ⟨b,0,none⟩ 0,.str s,.fn g [.ptr 1 ⟨b,0,none⟩ 0] []] [hpB F,Ps.pB b v l.length i0] (fun r m=>Ps.Got27L F v l b i0 (Ps.chain (l.map Lx.b) s sp i0) r m) (fun ch m=>Ps.Bad F v l b (Ps.chain (l.map Lx.b) s sp i0) ch m):=by
  refine NCallX.know (K:=fun r m=>∃ (ps:List Po.L) (j:Nat) (G:Heap) (w:Value),Ps.chain (l.map Lx.b) s sp i0 = .ok (ps.map (·.x)) j∧i0≤j∧j<l.length∧F.le G∧(∀ p∈ps,Po.At G p.x p.pu p.u)∧r.den=slOf w∧MemFits m [hpB G,⟨addrOf w,Po.psC ps,.row w 28 8 ps.length⟩,Ps.pB b v l.length j]) (Kp:=fun ch m=>∃ j x G k,Ps.chain (l.map Lx.b) s sp i0 = .bad j∧l[j]?=some x∧ch=Ps.wrong x.at_∧F.le G∧MemFits m [hpB G,Ps.pB b v l.length k]) ?_ (fun r m' hq ⟨w0,hw0⟩=>?_) (fun ch m' hq=>?_)
  rotate_left
  · obtain ⟨ps,j,G,w,h1,h2,h3,h4,h5,h6,h7⟩:=hq
    have hok:=((h7 w0 hw0).1.row (List.mem_cons_of_mem _ (List.mem_cons_self ..))).1
    have hrow:=rowF_new (F:=G) (sz:=8) (enc:=Po.psV) hok (Po.psC_den ps) (fun x _=>rfl)
    refine ⟨.hs w ps.length,_,h6.symm,h7.trans (MemFits.freeze (m:=[Ps.pB b v l.length j])),ps.map (·.x),j,_,w,h1,h2,h3,h4.trans addF.old,?_,by rw [List.length_map],rfl⟩
    exact Po.row_of hrow fun p hp=>Po.At.mono addF.old (h5 p hp)
  · obtain ⟨j,x,G,k,h1,h2,h3,h4,h5⟩:=hq
    exact ⟨_,h5,j,x,G,k,h1,h2,h3,h4,rfl⟩
  have c0:=hg i0 (Nat.le_refl _) hi0 F b hv
  have hn:=hl.few
  have hspec:Ps.chain (l.map Lx.b) s sp i0=match sp i0 with
    | .ok x j=>Ps.more (l.map Lx.b) s sp ((l.map Lx.b).length+1 - j) [x] j
    | .bad j=>.bad j:=by unfold Ps.chain;cases sp i0<;>rfl
  have hlen:(l.map Lx.b).length=l.length:=List.length_map ..
  rw [hlen] at hspec
  generalize Ps.chain (l.map Lx.b) s sp i0=res at *
  generalize hq0:sp i0=q0 at *
  refine ncallx_of Tryd.func59 rfl (by decide) ?_
  unfold Ps.pB at c0 ⊢
  (repeat' (first|(with_reducible first|(refine hK _ _ ?_;clear hP hK Kp K)|(refine hP _ _ ?_;clear hP hK Kp K))|(with_reducible (refine hK _ ?_;clear hK K))|((with_reducible refine gOX ?_);(first|((with_reducible refine st_opX ?_);intro K Kp hK hP;(conv=>whnf))|(with_reducible refine st_nilX ?_)))|((first|((with_reducible refine gH ?_);((with_reducible refine NH.mk ?s ?_);case s=>(and_intros<;>first|((with_reducible refine gLen ?_);rfl)|omega)))|((with_reducible refine gCX ?_);((with_reducible refine NCallX.isF g ?_);refine NCallX.subw [0,1] _ _ (c0) rfl (by decide) rfl ?_ ?_;((rintro _ _ ⟨p,j,G,pu,u,h1,h2,h3,h4,h5,rfl,rfl⟩)<;>refine ⟨Nat.le_of_ble_eq_true rfl,_,rfl,?_⟩);rotate_right;((rintro _ _ ⟨j,x,G,k,h1,h2,rfl,h4,rfl⟩)<;>refine ⟨Nat.le_of_ble_eq_true rfl,?_⟩))))<;>(conv=>whnf))|((with_reducible refine gXX ?_);((with_reducible first|refine st_seqX ?_|refine st_regionX ?_|refine st_blockX ?_)))|(with_reducible first|refine st_thenX ?_|refine st_thenX_panic ?_)|((with_reducible refine gRX ?_);((with_reducible refine st_retX_panic ?_)))|((with_reducible refine gFX ?_);((refine st_funcX rfl ?_);intro K hK;(conv=>whnf)))|((intro _;skip)<;>(conv=>whnf))))
  · refine ⟨j,x,G,k,?_,h2,rfl,h4,MemFits.pre 2 rfl⟩
    rw [hspec,h1]
  rename_i b2
  rw [h1] at hspec
  dsimp only at hspec
  refine st_autoX (α:=Heap × Value × List Po.L × Nat × Nat) (fun (G,w,ps,j,n)=>res=Ps.more (l.map Lx.b) s sp n (ps.map (·.x)) j∧i0≤j∧j<l.length∧l.length - j<n∧F.le G∧ps.length≤j+1∧∀ p∈ps,Po.At G p.x p.pu p.u)
    (fun (G,w,ps,j,n)=>[.keep,.keep,.keep,.keep,.keep,.keep,.keep,.set (.sl 2 w ps.length),.keep,.keep,.keep,.drop,.drop,.drop,.drop,.drop,.drop,.drop,.drop,.keep]) (fun (G,w,ps,j,n)=>[.set (hpB G),.set (Ps.pB b v l.length j),.set ⟨addrOf w,Po.psC ps,.row w 28 8 ps.length⟩]) (fun (G,w,ps,j,n)=>l.length - j)
    (G,.slice (some ⟨b2,0,none⟩) 1 1,[⟨p,pu,u⟩],j,l.length+1 - j) ⟨hspec,h2,h3,by omega,h4,by simp,fun x hx=>by rw [List.mem_singleton.1 hx];exact h5⟩ ?_ ?_ ?_
  · repeat (first|exact FitsSl.nil|refine FitsSl.any ?_|refine FitsSl.cons (Fit1.str rfl) ?_|refine FitsSl.cons (Fit1.same (by intro h;cases h) (by with_reducible rfl)) ?_|refine FitsSl.cons (Fit1.sl rfl) ?_)
  · exact MemFits.eq rfl
  (intro ⟨G1,w,ps,j1,n⟩ ⟨hres,hij,hjl,hnl,hle,hpl,hall⟩;intro K hK;(conv=>whnf);refine hK _ _ ?_;clear hK K)
  dsimp only at hres hij hjl hnl hle hpl hall ⊢
  obtain ⟨n,rfl⟩:∃ k,n=k+1:=⟨n - 1,by omega⟩
  have hx1:l[j1]?=some l[j1]:=List.getElem?_eq_getElem hjl
  have ci:=is29_c G1 v l (Ps.Toks.mono hle hv) hn b hx1 s
  have hisb:=Ps.is_b hx1 s
  have hnext:=hl.next hx1 (s:=s)
  rw [← hisb] at ci
  unfold Ps.more at hres
  have hpc:=Po.psC_len ps
  generalize Ps.is (l.map Lx.b) j1 s=qi at *
  cases qi with
  | false =>
    rw [if_neg (by decide)] at ci hres
    (repeat' (first|(with_reducible first|(refine hK _ _ ?_;clear hP hK Kp K)|(refine hB ?_;clear hA hB A B)|(refine hK _ ?_;clear hK K))|((with_reducible refine st_opX ?_);intro K Kp hK hP;(conv=>whnf))|(with_reducible refine st_nilX ?_)|((first|((with_reducible refine NIf.no ?s ?_);case s=>rfl)|((with_reducible refine gCX ?_);(refine NCallX.of ?_;((with_reducible refine NCall.isF 84 ?_);refine NCall.subE [0,1] (ci) rfl (by decide) rfl rfl ?_))))<;>(conv=>whnf))|(with_reducible first|refine st_seqX ?_|refine st_regionX ?_|refine st_exitX ?_|refine st_retX ?_)|((with_reducible refine st_condX ?_);intro A B hA hB;(conv=>whnf))|(with_reducible first|refine z10 ?_|refine z19 ?_|refine st_thenX ?_|refine st_thenX_exit ?_)|((with_reducible refine gRX ?_);(refine st_retX_ret rfl ?_;intro K hK;(conv=>whnf)))))
    all_goals exact ⟨ps,j1,G1,w,hres,hij,hjl,hle,hall,rfl,MemFits.pick [0,2,1] (by decide) rfl⟩
  | true =>
    rw [if_pos rfl] at ci hres
    have c1:=hg (j1+1) (by omega) (hnext rfl) G1 b (Ps.Toks.mono hle hv)
    generalize hq1:sp (j1+1)=q1 at *
    unfold Ps.pB at ci c1
    (repeat' (first|(with_reducible first|(refine hK _ _ ?_;clear hP hK Kp K)|(refine hP _ _ ?_;clear hP hK Kp K))|(with_reducible (refine hA ?_;clear hA hB A B))|((with_reducible refine gOX ?_);(first|((with_reducible refine st_opX ?_);intro K Kp hK hP;(conv=>whnf))|(with_reducible refine st_nilX ?_)))|((first|((with_reducible refine gI ?_);(((with_reducible refine NIf.yes ?s ?_);case s=>rfl)))|((with_reducible refine gH ?_);((with_reducible refine NH.mk ?s ?_);case s=>(and_intros<;>first|with_reducible rfl|((with_reducible refine gOnes ?_);rfl)|((with_reducible refine gLen ?_);rfl)|omega)))|((with_reducible refine gCX ?_);(first|((with_reducible refine NCallX.isF g ?_);refine NCallX.subw [0,1] _ _ (c1) rfl (by decide) rfl ?_ ?_;((rintro _ _ ⟨p2,j2,G2,pu2,u2,k1,k2,k3,k4,k5,rfl,rfl⟩)<;>refine ⟨Nat.le_of_ble_eq_true rfl,_,rfl,?_⟩);rotate_right;((rintro _ _ ⟨j2,x2,G2,k',k1,k2,rfl,k4,rfl⟩)<;>refine ⟨Nat.le_of_ble_eq_true rfl,?_⟩))|(refine NCallX.of ?_;(((with_reducible refine NCall.isF 84 ?_);refine NCall.subE [0,1] (ci) rfl (by decide) rfl rfl ?_))))))<;>(conv=>whnf))|((with_reducible refine gXX ?_);(first|(with_reducible first|refine st_seqX ?_|refine st_regionX ?_|refine st_blockX ?_|refine st_skipX ?_)|((with_reducible refine st_condX ?_);intro A B hA hB;(conv=>whnf))))|(with_reducible first|refine z9 ?_|refine st_thenX ?_|refine st_thenX_panic ?_|refine st_block_panic ?_|refine st_round_panic ?_)|((with_reducible refine gRX ?_);((with_reducible refine st_retX_panic ?_)))|((intro _;skip)<;>(conv=>whnf))))
    · refine ⟨j2,x2,G2,k',?_,k2,rfl,hle.trans k4,MemFits.pre 2 rfl⟩
      rw [hres,k1]
    · rename_i b3 w2
      have hpn:=Po.psC_next ps (⟨p2,pu2,u2⟩:Po.L)
      have hpl2:(ps++[(⟨p2,pu2,u2⟩:Po.L)]).length=ps.length+1:=by rw [List.length_append];rfl
      rw [k1] at hres
      dsimp only at hres
      refine st_round (G2,w2,ps++[⟨p2,pu2,u2⟩],j2,n) ⟨by rw [List.map_append];exact hres,Nat.le_trans hij (Nat.le_trans (Nat.le_succ _) k2),k3,by dsimp only;omega,hle.trans k4,by dsimp only;rw [hpl2];omega,fun x hx=>?_⟩ (by show l.length - j2<l.length - j1;omega) ?_ ?_
      · rcases List.mem_append.1 hx with hx | hx
        · exact Po.At.mono k4 (hall x hx)
        · rw [List.mem_singleton.1 hx];exact k5
      · dsimp only
        rw [hpl2]
        repeat (first|exact FitsSl.nil|refine FitsSl.any ?_|refine FitsSl.cons (Fit1.str rfl) ?_|refine FitsSl.cons (Fit1.same (by intro h;cases h) (by with_reducible rfl)) ?_)
      · dsimp only
        rw [hpn,hpl2]
        exact MemFits.pre 3 rfl
theorem row27_c (v:Value) (l:List Lx.T) (hl:Ps.Good l) (sp:Nat→Ps.R Po.T) (i0:Nat) (hi0:i0<l.length) (hg:∀ i,i0≤i→i<l.length→Ps.P27 v l 85 (sp i) i):Ps.P27 v l 60 (Ps.row (l.map Lx.b) sp i0) i0:=by
  intro F b hv
  refine NCallX.fits (K:=fun r m=>∃ p j G pu u,Ps.row (l.map Lx.b) sp i0 = .ok p j∧i0≤j∧j<l.length∧F.le G∧Po.At G p pu u∧r.den=(AV.agg (Po.cs p pu u)).den∧MemFits m [hpB G,Ps.pB b v l.length j]) (Kp:=fun ch m=>∃ j x G k,Ps.row (l.map Lx.b) sp i0 = .bad j∧l[j]?=some x∧ch=Ps.wrong x.at_∧F.le G∧MemFits m [hpB G,Ps.pB b v l.length k]) ?_ (fun r m' ⟨p,j,G,pu,u,h1,h2,h3,h4,h5,h6,h7⟩=>⟨_,_,h6.symm,h7,p,j,G,pu,u,h1,h2,h3,h4,h5,rfl,rfl⟩) (fun ch m' ⟨j,x,G,k,h1,h2,h3,h4,h5⟩=>⟨_,h5,j,x,G,k,h1,h2,h3,h4,rfl⟩)
  have cc:=chain27_c v l hl Ps.wSemi 85 sp i0 hi0 hg F b hv
  have hn:=hl.few
  unfold Ps.row
  generalize Ps.chain (l.map Lx.b) Ps.wSemi sp i0=q at *
  refine ncallx_of Tryd.func60 rfl (by decide) ?_
  unfold Ps.pB at cc ⊢
  unfold Ps.wSemi at cc
  (repeat' (first|(with_reducible first|(refine hK _ _ ?_;clear hP hK Kp K)|(refine hP _ _ ?_;clear hP hK Kp K))|(with_reducible (refine hK _ ?_;clear hK K))|((with_reducible refine gOX ?_);(first|((with_reducible refine st_opX ?_);intro K Kp hK hP;(conv=>whnf))|(with_reducible refine st_nilX ?_)))|((((with_reducible refine gCX ?_);((with_reducible refine NCallX.isF 59 ?_);refine NCallX.subw [0,1] _ _ (cc) rfl (by decide) rfl ?_ ?_;((rintro _ _ ⟨xs,j,G,u,h1,h2,h3,h4,h5,rfl,rfl⟩)<;>refine ⟨Nat.le_of_ble_eq_true rfl,_,rfl,?_⟩);rotate_right;((rintro _ _ ⟨j,x,G,k,h1,h2,rfl,h4,rfl⟩)<;>refine ⟨Nat.le_of_ble_eq_true rfl,?_⟩))))<;>(conv=>whnf))|((with_reducible refine gXX ?_);((with_reducible first|refine st_seqX ?_|refine st_regionX ?_)))|(with_reducible first|refine st_thenX ?_|refine st_thenX_panic ?_)|((with_reducible refine gRX ?_);((with_reducible refine st_retX_panic ?_)))|((with_reducible refine gFX ?_);((refine st_funcX rfl ?_);intro K hK;(conv=>whnf)))|((intro _;skip)<;>(conv=>whnf))))
  · refine ⟨j,x,G,k,?_,h2,rfl,h4,MemFits.pre 2 rfl⟩
    rw [h1]
    rfl
  have huk:=h5.ok
  subst h1
  by_cases hone:xs.length=1
  · obtain ⟨y,rfl⟩:=List.length_eq_one_iff.1 hone
    obtain ⟨pA,pcap,A,cap,hr,d0,d1,d2,d3,d4,d5,d6,d7⟩:=h5.get (i:=0) (x:=y) rfl
    rw [Nat.zero_mul] at d0 d1 d2 d3 d4 d5 d6 d7
    have hAo:=hr.l.ok
    have hAp:=hr.p.ok
    (repeat' (first|(with_reducible first|(refine hK _ _ ?_;clear hP hK Kp K)|(refine hA ?_;clear hA hB A B)|(refine hK _ ?_;clear hK K))|((with_reducible refine st_opX ?_);intro K Kp hK hP;(conv=>whnf))|(with_reducible refine st_nilX ?_)|((first|((with_reducible refine NIf.yes ?s ?_);case s=>(simp ;done))|(with_reducible first|refine NN.lit ?_|refine NN.a6 ?_)|((with_reducible refine NH.mk ?s ?_);case s=>(and_intros<;>first|with_reducible rfl|((with_reducible refine gOnes ?_);rfl)|((with_reducible refine gLen ?_);rfl)|omega))|(with_reducible refine NLd.of (by with_reducible assumption) ?_))<;>(conv=>whnf))|(with_reducible first|refine st_seqX ?_|refine st_regionX ?_|refine st_retX ?_)|((with_reducible refine st_condX ?_);intro A B hA hB;(conv=>whnf))|(with_reducible first|refine st_thenX ?_|refine st_thenX_ret ?_)|((with_reducible refine gRX ?_);(refine st_retX_ret rfl ?_;intro K hK;(conv=>whnf)))))
    all_goals exact ⟨y,j,G,_,_,rfl,h2,h3,h4,hr,rfl,MemFits.pre 2 rfl⟩
  · have hw:=Ps.wrap_not (f:=fun xs=>Po.T.mk 3 Ps.none26 0 0 xs) (j:=j) hone
    have hone2:¬(xs.length:Int)=1:=by omega
    (repeat' (first|(with_reducible first|(refine hK _ _ ?_;clear hP hK Kp K)|(refine hB ?_;clear hA hB A B)|(refine hK _ ?_;clear hK K))|((with_reducible refine st_opX ?_);intro K Kp hK hP;(conv=>whnf))|(with_reducible refine st_nilX ?_)|((first|((with_reducible refine NIf.no ?s ?_);case s=>(simp [hone2];done))|((with_reducible refine NH.mk ?s ?_);case s=>(and_intros<;>first|with_reducible rfl|((with_reducible refine gOnes ?_);rfl)|((with_reducible refine gLen ?_);rfl)|omega)))<;>(conv=>whnf))|(with_reducible first|refine st_seqX ?_|refine st_regionX ?_|refine st_skipX ?_|refine st_retX ?_)|((with_reducible refine st_condX ?_);intro A B hA hB;(conv=>whnf))|(with_reducible refine st_thenX ?_)|((with_reducible refine gRX ?_);(refine st_retX_ret rfl ?_;intro K hK;(conv=>whnf)))))
    all_goals exact ⟨.mk 3 Ps.none26 0 0 xs,j,G,.slice none 0 0,u,hw,h2,h3,h4,⟨RowF.nil,h5⟩,rfl,MemFits.pre 2 rfl⟩
theorem policy27_c (v:Value) (l:List Lx.T) (hl:Ps.Good l) (sp:Nat→Ps.R Po.T) (i0:Nat) (hi0:i0<l.length) (hg:∀ i,i0≤i→i<l.length→Ps.P27 v l 60 (Ps.row (l.map Lx.b) sp i) i):Ps.P27 v l 27 (Ps.rows (l.map Lx.b) sp i0) i0:=by
  intro F b hv
  refine NCallX.fits (K:=fun r m=>∃ p j G pu u,Ps.rows (l.map Lx.b) sp i0 = .ok p j∧i0≤j∧j<l.length∧F.le G∧Po.At G p pu u∧r.den=(AV.agg (Po.cs p pu u)).den∧MemFits m [hpB G,Ps.pB b v l.length j]) (Kp:=fun ch m=>∃ j x G k,Ps.rows (l.map Lx.b) sp i0 = .bad j∧l[j]?=some x∧ch=Ps.wrong x.at_∧F.le G∧MemFits m [hpB G,Ps.pB b v l.length k]) ?_ (fun r m' ⟨p,j,G,pu,u,h1,h2,h3,h4,h5,h6,h7⟩=>⟨_,_,h6.symm,h7,p,j,G,pu,u,h1,h2,h3,h4,h5,rfl,rfl⟩) (fun ch m' ⟨j,x,G,k,h1,h2,h3,h4,h5⟩=>⟨_,h5,j,x,G,k,h1,h2,h3,h4,rfl⟩)
  have cc:=chain27_c v l hl Ps.wBar 60 (Ps.row (l.map Lx.b) sp) i0 hi0 hg F b hv
  have hn:=hl.few
  unfold Ps.rows
  generalize Ps.chain (l.map Lx.b) Ps.wBar (Ps.row (l.map Lx.b) sp) i0=q at *
  refine ncallx_of Tryd.func27 rfl (by decide) ?_
  unfold Ps.pB at cc ⊢
  unfold Ps.wBar at cc
  (repeat' (first|(with_reducible first|(refine hK _ _ ?_;clear hP hK Kp K)|(refine hP _ _ ?_;clear hP hK Kp K))|(with_reducible (refine hK _ ?_;clear hK K))|((with_reducible refine gOX ?_);(first|((with_reducible refine st_opX ?_);intro K Kp hK hP;(conv=>whnf))|(with_reducible refine st_nilX ?_)))|((((with_reducible refine gCX ?_);((with_reducible refine NCallX.isF 59 ?_);refine NCallX.subw [0,1] _ _ (cc) rfl (by decide) rfl ?_ ?_;((rintro _ _ ⟨xs,j,G,u,h1,h2,h3,h4,h5,rfl,rfl⟩)<;>refine ⟨Nat.le_of_ble_eq_true rfl,_,rfl,?_⟩);rotate_right;((rintro _ _ ⟨j,x,G,k,h1,h2,rfl,h4,rfl⟩)<;>refine ⟨Nat.le_of_ble_eq_true rfl,?_⟩))))<;>(conv=>whnf))|((with_reducible refine gXX ?_);((with_reducible first|refine st_seqX ?_|refine st_regionX ?_)))|(with_reducible first|refine st_thenX ?_|refine st_thenX_panic ?_)|((with_reducible refine gRX ?_);((with_reducible refine st_retX_panic ?_)))|((with_reducible refine gFX ?_);((refine st_funcX rfl ?_);intro K hK;(conv=>whnf)))|((intro _;skip)<;>(conv=>whnf))))
  · refine ⟨j,x,G,k,?_,h2,rfl,h4,MemFits.pre 2 rfl⟩
    rw [h1]
    rfl
  have huk:=h5.ok
  subst h1
  by_cases hone:xs.length=1
  · obtain ⟨y,rfl⟩:=List.length_eq_one_iff.1 hone
    obtain ⟨pA,pcap,A,cap,hr,d0,d1,d2,d3,d4,d5,d6,d7⟩:=h5.get (i:=0) (x:=y) rfl
    rw [Nat.zero_mul] at d0 d1 d2 d3 d4 d5 d6 d7
    have hAo:=hr.l.ok
    have hAp:=hr.p.ok
    (repeat' (first|(with_reducible first|(refine hK _ _ ?_;clear hP hK Kp K)|(refine hA ?_;clear hA hB A B)|(refine hK _ ?_;clear hK K))|((with_reducible refine st_opX ?_);intro K Kp hK hP;(conv=>whnf))|(with_reducible refine st_nilX ?_)|((first|((with_reducible refine NIf.yes ?s ?_);case s=>(simp ;done))|(with_reducible first|refine NN.lit ?_|refine NN.a6 ?_)|((with_reducible refine NH.mk ?s ?_);case s=>(and_intros<;>first|with_reducible rfl|((with_reducible refine gOnes ?_);rfl)|((with_reducible refine gLen ?_);rfl)|omega))|(with_reducible refine NLd.of (by with_reducible assumption) ?_))<;>(conv=>whnf))|(with_reducible first|refine st_seqX ?_|refine st_regionX ?_|refine st_retX ?_)|((with_reducible refine st_condX ?_);intro A B hA hB;(conv=>whnf))|(with_reducible first|refine st_thenX ?_|refine st_thenX_ret ?_)|((with_reducible refine gRX ?_);(refine st_retX_ret rfl ?_;intro K hK;(conv=>whnf)))))
    all_goals exact ⟨y,j,G,_,_,rfl,h2,h3,h4,hr,rfl,MemFits.pre 2 rfl⟩
  · have hw:=Ps.wrap_not (f:=fun xs=>Po.T.mk 4 Ps.none26 0 0 xs) (j:=j) hone
    have hone2:¬(xs.length:Int)=1:=by omega
    (repeat' (first|(with_reducible first|(refine hK _ _ ?_;clear hP hK Kp K)|(refine hB ?_;clear hA hB A B)|(refine hK _ ?_;clear hK K))|((with_reducible refine st_opX ?_);intro K Kp hK hP;(conv=>whnf))|(with_reducible refine st_nilX ?_)|((first|((with_reducible refine NIf.no ?s ?_);case s=>(simp [hone2];done))|((with_reducible refine NH.mk ?s ?_);case s=>(and_intros<;>first|with_reducible rfl|((with_reducible refine gOnes ?_);rfl)|((with_reducible refine gLen ?_);rfl)|omega)))<;>(conv=>whnf))|(with_reducible first|refine st_seqX ?_|refine st_regionX ?_|refine st_skipX ?_|refine st_retX ?_)|((with_reducible refine st_condX ?_);intro A B hA hB;(conv=>whnf))|(with_reducible refine st_thenX ?_)|((with_reducible refine gRX ?_);(refine st_retX_ret rfl ?_;intro K hK;(conv=>whnf)))))
    all_goals exact ⟨.mk 4 Ps.none26 0 0 xs,j,G,.slice none 0 0,u,hw,h2,h3,h4,⟨RowF.nil,h5⟩,rfl,MemFits.pre 2 rfl⟩
end Go.Proofs.YtaojbkphcnailaaDoor
namespace Go.Proofs.YtaojbkphcnailaaDoor
open Go.Sx
set_option maxRecDepth 20000
set_option linter.unusedSimpArgs false
set_option linter.unusedVariables false
set_option maxHeartbeats 4000000
set_option linter.unusedVariables false
namespace Ps
def Out26 (F:Heap) (l:List Lx.T) (q:R Pd.T) (i:Nat) (r:AV) (m:List Blk):Prop :=
  ∃ (x:Pd.T) (u:Value) (j:Nat) (G:Heap) (ok:Bool),F.le G∧Pd.Row G u x.l∧i≤j∧j<l.length∧q=(if ok=true then .ok x j else .bad j)∧r = .tup [.agg (Pd.cs x u),.int .i64 j,.bool ok]∧m=[hpB G]
def D26 (v:Value) (l:List Lx.T) (f:FuncId) (q:R Pd.T) (i:Nat):Prop :=
  ∀ (F:Heap),Toks F v l→NCall Tryd.prog f [.hs v l.length,.int .i64 i] [hpB F] (Out26 F l q i)
def Out27 (F:Heap) (l:List Lx.T) (q:R Po.T) (i:Nat) (r:AV) (m:List Blk):Prop :=
  ∃ (x:Po.T) (pu u:Value) (j:Nat) (G:Heap) (ok:Bool),F.le G∧Po.At G x pu u∧i≤j∧j<l.length∧q=(if ok=true then .ok x j else .bad j)∧r = .tup [.agg (Po.cs x pu u),.int .i64 j,.bool ok]∧m=[hpB G]
def D27 (v:Value) (l:List Lx.T) (f:FuncId) (q:R Po.T) (i:Nat):Prop :=
  ∀ (F:Heap),Toks F v l→NCall Tryd.prog f [.hs v l.length,.int .i64 i] [hpB F] (Out27 F l q i)
end Ps
theorem refgroup_c (v:Value) (l:List Lx.T) (hl:Ps.Good l) (sp:Nat→Ps.R Pd.T) (i0:Nat) (hi0:i0<l.length) (hg:∀ i,i0≤i→i<l.length→Ps.D26 v l 89 (sp i) i):Ps.D26 v l 70 (Ps.wrap (fun xs=>Pd.T.mk 5 0 0 xs) (Ps.chain (l.map Lx.b) Ps.wAnd sp i0)) i0:=by
  intro F hv
  refine NCall.know (K:=fun r m=>∃ (y:Pd.T) (j:Nat) (G:Heap) (w:Value) (ok:Bool),F.le G∧i0≤j∧j<l.length∧Ps.wrap (fun xs=>Pd.T.mk 5 0 0 xs) (Ps.chain (l.map Lx.b) Ps.wAnd sp i0)=(if ok=true then .ok y j else .bad j)∧r.den=(AV.tup [.agg (Pd.cs y w),.int .i64 j,.bool ok]).den∧((Pd.Row G w y.l∧MemFits m [hpB G])∨(∃ ps:List (Pd.T × Value),y.l=ps.map (·.1)∧(∀ p∈ps,Pd.Row G p.2 p.1.l)∧MemFits m [hpB G,⟨addrOf w,Pd.psC ps,.row w 34 4 ps.length⟩]))) ?_ fun r m' hq ⟨w0,hw0⟩=>?_
  rotate_left
  · obtain ⟨y,j,G,w,ok,h1,h2,h3,h4,h5,h6⟩:=hq
    rcases h6 with ⟨h6,h7⟩ | ⟨ps,e,h6,h7⟩
    · exact ⟨_,_,h5.symm,h7,y,w,j,G,ok,h1,h6,h2,h3,h4,rfl,rfl⟩
    · have hok:=((h7 w0 hw0).1.row (List.mem_cons_of_mem _ (List.mem_cons_self ..))).1
      have hrow:=rowF_new (F:=G) (sz:=4) (enc:=Pd.psV) hok (Pd.psC_den ps) (fun x _=>rfl)
      have hr:=Pd.row_of hrow fun p hp=>Pd.Row.mono addF.old (h6 p hp)
      rw [← e] at hr
      exact ⟨_,_,h5.symm,h7.trans (MemFits.freeze (m:=[])),y,w,j,_,ok,h1.trans addF.old,hr,h2,h3,h4,rfl,rfl⟩
  have c0:=hg i0 (Nat.le_refl _) hi0 F hv
  have hn:=hl.few
  have hspec:Ps.chain (l.map Lx.b) Ps.wAnd sp i0=match sp i0 with
    | .ok x j=>Ps.more (l.map Lx.b) Ps.wAnd sp ((l.map Lx.b).length+1 - j) [x] j
    | .bad j=>.bad j:=by unfold Ps.chain;cases sp i0<;>rfl
  have hlen:(l.map Lx.b).length=l.length:=List.length_map ..
  rw [hlen] at hspec
  generalize Ps.chain (l.map Lx.b) Ps.wAnd sp i0=res at *
  refine ncall_of Tryd.func70 rfl (by decide) ?_
  (repeat' (first|(with_reducible first|(refine hK _ _ ?_;clear hK K)|(refine hK _ ?_;clear hK K))|((with_reducible refine z25 ?_);intro K hK;(conv=>whnf))|(with_reducible refine z0 ?_)|((first|((with_reducible refine NH.mk ?s ?_);case s=>(and_intros<;>first|with_reducible rfl|((with_reducible refine gOnes ?_);rfl)|((with_reducible refine gLen ?_);rfl)|omega))|((with_reducible refine NCall.isF 89 ?_);refine NCall.subw [0] _ _ (c0) rfl (by decide) rfl ?_;rintro _ _ ⟨x,u,j,G,ok,h1,h2,h3,h4,h5,rfl,rfl⟩;refine ⟨Nat.le_of_ble_eq_true rfl,_,rfl,?_⟩))<;>(conv=>whnf))|(with_reducible first|refine z3 ?_|refine z4 ?_|refine z5 ?_|refine z1 ?_|refine z2 ?_)|((with_reducible refine gF ?_);(refine z33 rfl ?_;intro K hK;(conv=>whnf)))|((intro _;skip)<;>(conv=>whnf))))
  rename_i b0 b1 b2
  have hinit:res=(if ok=true then Ps.more (l.map Lx.b) Ps.wAnd sp (l.length+1 - j) [x] j else .bad j):=by
    rw [hspec,h5]
    cases ok<;>rfl
  clear hspec h5
  refine st_auto (α:=Heap × Value × List (Pd.T × Value) × (Pd.T × Value) × Nat × Bool × Nat) (fun (G,w,ps,(x,u),j,ok,n)=>F.le G∧(∀ p∈ps,Pd.Row G p.2 p.1.l)∧Pd.Row G u x.l∧i0≤j∧j<l.length∧res=(if ok=true then Ps.more (l.map Lx.b) Ps.wAnd sp n (ps.map (·.1)) j else .bad j)∧l.length - j<n∧1≤ps.length∧ps.length≤j+1∧(ps.length=1→ps=[(x,u)]))
    (fun (G,w,ps,(x,u),j,ok,n)=>[.keep,.keep,.keep,.keep,.keep,.keep,.keep,.keep,.set (.int .i64 j),.set (.bool ok),.set (.sl 3 w ps.length),.keep,.keep,.keep,.keep,.keep,.keep,.keep,.keep,.keep,.drop,.drop,.drop,.drop,.drop,.drop,.drop,.drop,.drop,.drop,.drop,.drop,.drop,.drop,.drop,.drop,.drop,.drop,.keep,.keep,.keep,.keep,.keep,.keep,.keep,.keep,.keep,.keep]) (fun (G,w,ps,(x,u),j,ok,n)=>[.set (hpB G),.keep,.set ⟨⟨b1,0,none⟩,Pd.cs x u,.var 34⟩,.set ⟨addrOf w,Pd.psC ps,.row w 34 4 ps.length⟩]) (fun (G,w,ps,(x,u),j,ok,n)=>if ok=true then l.length - j else 0)
    (G,.slice (some ⟨b2,0,none⟩) 1 1,[(x,u)],(x,u),j,ok,l.length+1 - j) ⟨h1,fun p hp=>by rw [List.mem_singleton.1 hp];exact h2,h2,h3,h4,hinit,by omega,Nat.le_refl _,by simp,fun _=>rfl⟩ ?_ ?_ ?_
  · repeat (first|exact FitsSl.nil|refine FitsSl.any ?_|refine FitsSl.cons (Fit1.int (by first | rfl | omega)) ?_|refine FitsSl.cons (Fit1.bool rfl) ?_|refine FitsSl.cons (Fit1.same (by intro h;cases h) (by with_reducible rfl)) ?_|refine FitsSl.cons (Fit1.sl rfl) ?_)
  · exact MemFits.eq rfl
  (intro ⟨G1,w,ps,(x,u),j1,ok1,n⟩ ⟨hle,hall,hrow,hij,hjl,hres,hnl,hp1,hpl,hone⟩;intro K hK;(conv=>whnf);refine hK _ _ ?_;clear hK K)
  dsimp only at hle hall hrow hij hjl hres hnl hp1 hpl hone ⊢
  have hpc:=Pd.psC_len ps
  cases ok1 with
  | false =>
    rw [if_neg (by decide)] at hres
    by_cases h1:ps.length=1
    · (repeat' (first|(with_reducible first|(refine hK _ _ ?_;clear hK K)|(refine hA ?_;clear hA hB A B)|(refine hB ?_;clear hA hB A B)|(refine hK _ ?_;clear hK K))|((with_reducible first|refine z25 ?_|refine z26 ?_);intro K hK;(conv=>whnf))|(with_reducible refine z0 ?_)|((first|((with_reducible refine NIf.decY ?s ?_);case s=>omega)|((with_reducible refine NIf.no ?s ?_);case s=>rfl)|((with_reducible refine NH.mk ?s ?_);case s=>(and_intros<;>first|with_reducible rfl|((with_reducible refine gOnes ?_);rfl)|((with_reducible refine gLen ?_);rfl))))<;>(conv=>whnf))|(with_reducible first|refine z3 ?_|refine z4 ?_|refine z7 ?_|refine z8 ?_)|((with_reducible refine z29 ?_);intro A B hA hB;(conv=>whnf))|(with_reducible first|refine z1 ?_|refine z2 ?_|refine z10 ?_|refine z11 ?_|refine z12 ?_|refine z19 ?_)|((with_reducible refine gR ?_);(refine z31 rfl ?_;intro K hK;(conv=>whnf)))))
      all_goals exact ⟨x,j1,G1,u,false,hle,hij,hjl,by rw [hres];rfl,rfl,.inl ⟨hrow,MemFits.pre 1 rfl⟩⟩
    · (repeat' (first|(with_reducible first|(refine hK _ _ ?_;clear hK K)|(refine hB ?_;clear hA hB A B)|(refine hK _ ?_;clear hK K))|((with_reducible first|refine z25 ?_|refine z26 ?_);intro K hK;(conv=>whnf))|(with_reducible refine z0 ?_)|((first|((with_reducible refine NIf.decN ?s ?_);case s=>omega)|((with_reducible refine NIf.no ?s ?_);case s=>rfl)|((with_reducible refine NH.mk ?s ?_);case s=>(and_intros<;>first|with_reducible rfl|((with_reducible refine gOnes ?_);rfl)|((with_reducible refine gLen ?_);rfl))))<;>(conv=>whnf))|(with_reducible first|refine z3 ?_|refine z4 ?_|refine z6 ?_|refine z7 ?_|refine z8 ?_)|((with_reducible refine z29 ?_);intro A B hA hB;(conv=>whnf))|(with_reducible first|refine z1 ?_|refine z2 ?_|refine z10 ?_|refine z11 ?_|refine z19 ?_)|((with_reducible refine gR ?_);(refine z31 rfl ?_;intro K hK;(conv=>whnf)))))
      all_goals exact ⟨Pd.T.mk 5 0 0 (ps.map (·.1)),j1,G1,w,false,hle,hij,hjl,by rw [hres];rfl,rfl,.inr ⟨ps,rfl,hall,MemFits.pick [0,3] (by decide) rfl⟩⟩
  | true =>
    rw [if_pos rfl] at hres
    obtain ⟨n,rfl⟩:∃ k,n=k+1:=⟨n - 1,by omega⟩
    have hx1:l[j1]?=some l[j1]:=List.getElem?_eq_getElem hjl
    have ci:=refis29_c G1 v l (Ps.Toks.mono hle hv) hn hx1 Ps.wAnd
    have hnext:=hl.next hx1 (s:=Ps.wAnd)
    unfold Ps.more at hres
    cases hq:Ps.is (l.map Lx.b) j1 Ps.wAnd with
    | false =>
      rw [hq] at ci
      rw [hq,if_neg (by decide)] at hres
      unfold Ps.wAnd at ci
      by_cases h1:ps.length=1
      · have e:=hone h1
        subst e
        (repeat' (first|(with_reducible first|(refine hK _ _ ?_;clear hK K)|(refine hA ?_;clear hA hB A B)|(refine hB ?_;clear hA hB A B)|(refine hK _ ?_;clear hK K))|((with_reducible first|refine z25 ?_|refine z26 ?_);intro K hK;(conv=>whnf))|(with_reducible refine z0 ?_)|((first|((with_reducible refine NIf.decY ?s ?_);case s=>omega)|((with_reducible refine NIf.yes ?s ?_);case s=>rfl)|((with_reducible refine NIf.no ?s ?_);case s=>rfl)|((with_reducible refine NH.mk ?s ?_);case s=>(and_intros<;>first|with_reducible rfl|((with_reducible refine gOnes ?_);rfl)|((with_reducible refine gLen ?_);rfl)))|((with_reducible refine NCall.isF 66 ?_);refine NCall.subE [0] (ci) rfl (by decide) rfl rfl ?_))<;>(conv=>whnf))|(with_reducible first|refine z3 ?_|refine z4 ?_|refine z7 ?_|refine z8 ?_)|((with_reducible refine z29 ?_);intro A B hA hB;(conv=>whnf))|(with_reducible first|refine z1 ?_|refine z2 ?_|refine z10 ?_|refine z11 ?_|refine z12 ?_|refine z19 ?_)|((with_reducible refine gR ?_);(refine z31 rfl ?_;intro K hK;(conv=>whnf)))))
        all_goals exact ⟨x,j1,G1,u,true,hle,hij,hjl,by rw [hres];rfl,rfl,.inl ⟨hrow,MemFits.pre 1 rfl⟩⟩
      · have hwn:=Ps.wrap_not (f:=fun xs=>Pd.T.mk 5 0 0 xs) (xs:=ps.map (·.1)) (j:=j1) (by rw [List.length_map];exact h1)
        (repeat' (first|(with_reducible first|(refine hK _ _ ?_;clear hK K)|(refine hB ?_;clear hA hB A B)|(refine hK _ ?_;clear hK K))|((with_reducible first|refine z25 ?_|refine z26 ?_);intro K hK;(conv=>whnf))|(with_reducible refine z0 ?_)|((first|((with_reducible refine NIf.decN ?s ?_);case s=>omega)|((with_reducible refine NIf.yes ?s ?_);case s=>rfl)|((with_reducible refine NIf.no ?s ?_);case s=>rfl)|((with_reducible refine NH.mk ?s ?_);case s=>(and_intros<;>first|with_reducible rfl|((with_reducible refine gOnes ?_);rfl)|((with_reducible refine gLen ?_);rfl)))|((with_reducible refine NCall.isF 66 ?_);refine NCall.subE [0] (ci) rfl (by decide) rfl rfl ?_))<;>(conv=>whnf))|(with_reducible first|refine z3 ?_|refine z4 ?_|refine z6 ?_|refine z7 ?_|refine z8 ?_)|((with_reducible refine z29 ?_);intro A B hA hB;(conv=>whnf))|(with_reducible first|refine z1 ?_|refine z2 ?_|refine z10 ?_|refine z11 ?_|refine z19 ?_)|((with_reducible refine gR ?_);(refine z31 rfl ?_;intro K hK;(conv=>whnf)))))
        all_goals exact ⟨Pd.T.mk 5 0 0 (ps.map (·.1)),j1,G1,w,true,hle,hij,hjl,by rw [hres];exact hwn,rfl,.inr ⟨ps,rfl,hall,MemFits.pick [0,3] (by decide) rfl⟩⟩
    | true =>
      rw [hq] at ci
      rw [hq,if_pos rfl] at hres
      unfold Ps.wAnd at ci
      have c1:=hg (j1+1) (by omega) (hnext hq) G1 (Ps.Toks.mono hle hv)
      (repeat' (first|(with_reducible first|(refine hK _ _ ?_;clear hK K)|(refine hA ?_;clear hA hB A B))|((with_reducible first|refine z25 ?_|refine z26 ?_);intro K hK;(conv=>whnf))|(with_reducible refine z0 ?_)|((first|((with_reducible refine NV.i64 ?s ?_);case s=>omega)|((with_reducible refine NIf.yes ?s ?_);case s=>rfl)|((with_reducible refine NH.mk ?s ?_);case s=>(and_intros<;>first|with_reducible rfl|((with_reducible refine gOnes ?_);rfl)|((with_reducible refine gLen ?_);rfl)|omega))|((with_reducible refine NCall.isF 66 ?_);refine NCall.subE [0] (ci) rfl (by decide) rfl rfl ?_)|((with_reducible refine NCall.isF 89 ?_);refine NCall.subw [0] _ _ (c1) rfl (by decide) rfl ?_;rintro _ _ ⟨x2,u2,j2,G2,ok2,k1,k2,k3,k4,k5,rfl,rfl⟩;refine ⟨Nat.le_of_ble_eq_true rfl,_,rfl,?_⟩))<;>(conv=>whnf))|(with_reducible first|refine z3 ?_|refine z4 ?_|refine z5 ?_|refine z6 ?_)|((with_reducible refine z29 ?_);intro A B hA hB;(conv=>whnf))|(with_reducible first|refine z1 ?_|refine z2 ?_|refine z9 ?_)|((intro _;skip)<;>(conv=>whnf))))
      rename_i b3 w2
      have hpn:=Pd.psC_next ps (x2,u2)
      have hpl2:(ps++[(x2,u2)]).length=ps.length+1:=by rw [List.length_append];rfl
      have hres2:res=(if ok2=true then Ps.more (l.map Lx.b) Ps.wAnd sp n ((ps++[(x2,u2)]).map (·.1)) j2 else .bad j2):=by
        rw [hres,k5,List.map_append]
        cases ok2<;>rfl
      refine st_round (G2,w2,ps++[(x2,u2)],(x2,u2),j2,ok2,n) ⟨hle.trans k1,fun p hp=>?_,k2,Nat.le_trans hij (Nat.le_trans (Nat.le_succ _) k3),k4,hres2,by dsimp only;omega,by dsimp only;rw [hpl2];omega,by dsimp only;rw [hpl2];omega,fun h=>by dsimp only at h;rw [hpl2] at h;omega⟩ (by show (if ok2=true then l.length - j2 else 0)<l.length - j1;split<;>omega) ?_ ?_
      · rcases List.mem_append.1 hp with hp | hp
        · exact Pd.Row.mono k1 (hall p hp)
        · rw [List.mem_singleton.1 hp];exact k2
      · dsimp only
        rw [hpl2]
        repeat (first|exact FitsSl.nil|refine FitsSl.any ?_|refine FitsSl.cons (Fit1.int (by first | rfl | omega)) ?_|refine FitsSl.cons (Fit1.bool rfl) ?_|refine FitsSl.cons (Fit1.same (by intro h;cases h) (by with_reducible rfl)) ?_)
      · dsimp only
        rw [hpn,hpl2]
        exact MemFits.pre 4 rfl
theorem refcond_c (v:Value) (l:List Lx.T) (hl:Ps.Good l) (sp:Nat→Ps.R Pd.T) (i0:Nat) (hi0:i0<l.length) (hg:∀ i,i0≤i→i<l.length→Ps.D26 v l 70 (sp i) i):Ps.D26 v l 33 (Ps.wrap (fun xs=>Pd.T.mk 6 0 0 xs) (Ps.chain (l.map Lx.b) Ps.wOr sp i0)) i0:=by
  intro F hv
  refine NCall.know (K:=fun r m=>∃ (y:Pd.T) (j:Nat) (G:Heap) (w:Value) (ok:Bool),F.le G∧i0≤j∧j<l.length∧Ps.wrap (fun xs=>Pd.T.mk 6 0 0 xs) (Ps.chain (l.map Lx.b) Ps.wOr sp i0)=(if ok=true then .ok y j else .bad j)∧r.den=(AV.tup [.agg (Pd.cs y w),.int .i64 j,.bool ok]).den∧((Pd.Row G w y.l∧MemFits m [hpB G])∨(∃ ps:List (Pd.T × Value),y.l=ps.map (·.1)∧(∀ p∈ps,Pd.Row G p.2 p.1.l)∧MemFits m [hpB G,⟨addrOf w,Pd.psC ps,.row w 34 4 ps.length⟩]))) ?_ fun r m' hq ⟨w0,hw0⟩=>?_
  rotate_left
  · obtain ⟨y,j,G,w,ok,h1,h2,h3,h4,h5,h6⟩:=hq
    rcases h6 with ⟨h6,h7⟩ | ⟨ps,e,h6,h7⟩
    · exact ⟨_,_,h5.symm,h7,y,w,j,G,ok,h1,h6,h2,h3,h4,rfl,rfl⟩
    · have hok:=((h7 w0 hw0).1.row (List.mem_cons_of_mem _ (List.mem_cons_self ..))).1
      have hrow:=rowF_new (F:=G) (sz:=4) (enc:=Pd.psV) hok (Pd.psC_den ps) (fun x _=>rfl)
      have hr:=Pd.row_of hrow fun p hp=>Pd.Row.mono addF.old (h6 p hp)
      rw [← e] at hr
      exact ⟨_,_,h5.symm,h7.trans (MemFits.freeze (m:=[])),y,w,j,_,ok,h1.trans addF.old,hr,h2,h3,h4,rfl,rfl⟩
  have c0:=hg i0 (Nat.le_refl _) hi0 F hv
  have hn:=hl.few
  have hspec:Ps.chain (l.map Lx.b) Ps.wOr sp i0=match sp i0 with
    | .ok x j=>Ps.more (l.map Lx.b) Ps.wOr sp ((l.map Lx.b).length+1 - j) [x] j
    | .bad j=>.bad j:=by unfold Ps.chain;cases sp i0<;>rfl
  have hlen:(l.map Lx.b).length=l.length:=List.length_map ..
  rw [hlen] at hspec
  generalize Ps.chain (l.map Lx.b) Ps.wOr sp i0=res at *
  refine ncall_of Tryd.func33 rfl (by decide) ?_
  (repeat' (first|(with_reducible first|(refine hK _ _ ?_;clear hK K)|(refine hK _ ?_;clear hK K))|((with_reducible refine z25 ?_);intro K hK;(conv=>whnf))|(with_reducible refine z0 ?_)|((first|((with_reducible refine NH.mk ?s ?_);case s=>(and_intros<;>first|with_reducible rfl|((with_reducible refine gOnes ?_);rfl)|((with_reducible refine gLen ?_);rfl)|omega))|((with_reducible refine NCall.isF 70 ?_);refine NCall.subw [0] _ _ (c0) rfl (by decide) rfl ?_;rintro _ _ ⟨x,u,j,G,ok,h1,h2,h3,h4,h5,rfl,rfl⟩;refine ⟨Nat.le_of_ble_eq_true rfl,_,rfl,?_⟩))<;>(conv=>whnf))|(with_reducible first|refine z3 ?_|refine z4 ?_|refine z5 ?_|refine z1 ?_|refine z2 ?_)|((with_reducible refine gF ?_);(refine z33 rfl ?_;intro K hK;(conv=>whnf)))|((intro _;skip)<;>(conv=>whnf))))
  rename_i b0 b1 b2
  have hinit:res=(if ok=true then Ps.more (l.map Lx.b) Ps.wOr sp (l.length+1 - j) [x] j else .bad j):=by
    rw [hspec,h5]
    cases ok<;>rfl
  clear hspec h5
  refine st_auto (α:=Heap × Value × List (Pd.T × Value) × (Pd.T × Value) × Nat × Bool × Nat) (fun (G,w,ps,(x,u),j,ok,n)=>F.le G∧(∀ p∈ps,Pd.Row G p.2 p.1.l)∧Pd.Row G u x.l∧i0≤j∧j<l.length∧res=(if ok=true then Ps.more (l.map Lx.b) Ps.wOr sp n (ps.map (·.1)) j else .bad j)∧l.length - j<n∧1≤ps.length∧ps.length≤j+1∧(ps.length=1→ps=[(x,u)]))
    (fun (G,w,ps,(x,u),j,ok,n)=>[.keep,.keep,.keep,.keep,.keep,.keep,.keep,.keep,.set (.int .i64 j),.set (.bool ok),.set (.sl 3 w ps.length),.keep,.keep,.keep,.keep,.keep,.keep,.keep,.keep,.keep,.drop,.drop,.drop,.drop,.drop,.drop,.drop,.drop,.drop,.drop,.drop,.drop,.drop,.drop,.drop,.drop,.drop,.drop,.keep,.keep,.keep,.keep,.keep,.keep,.keep,.keep,.keep,.keep]) (fun (G,w,ps,(x,u),j,ok,n)=>[.set (hpB G),.keep,.set ⟨⟨b1,0,none⟩,Pd.cs x u,.var 34⟩,.set ⟨addrOf w,Pd.psC ps,.row w 34 4 ps.length⟩]) (fun (G,w,ps,(x,u),j,ok,n)=>if ok=true then l.length - j else 0)
    (G,.slice (some ⟨b2,0,none⟩) 1 1,[(x,u)],(x,u),j,ok,l.length+1 - j) ⟨h1,fun p hp=>by rw [List.mem_singleton.1 hp];exact h2,h2,h3,h4,hinit,by omega,Nat.le_refl _,by simp,fun _=>rfl⟩ ?_ ?_ ?_
  · repeat (first|exact FitsSl.nil|refine FitsSl.any ?_|refine FitsSl.cons (Fit1.int (by first | rfl | omega)) ?_|refine FitsSl.cons (Fit1.bool rfl) ?_|refine FitsSl.cons (Fit1.same (by intro h;cases h) (by with_reducible rfl)) ?_|refine FitsSl.cons (Fit1.sl rfl) ?_)
  · exact MemFits.eq rfl
  (intro ⟨G1,w,ps,(x,u),j1,ok1,n⟩ ⟨hle,hall,hrow,hij,hjl,hres,hnl,hp1,hpl,hone⟩;intro K hK;(conv=>whnf);refine hK _ _ ?_;clear hK K)
  dsimp only at hle hall hrow hij hjl hres hnl hp1 hpl hone ⊢
  have hpc:=Pd.psC_len ps
  cases ok1 with
  | false =>
    rw [if_neg (by decide)] at hres
    by_cases h1:ps.length=1
    · (repeat' (first|(with_reducible first|(refine hK _ _ ?_;clear hK K)|(refine hA ?_;clear hA hB A B)|(refine hB ?_;clear hA hB A B)|(refine hK _ ?_;clear hK K))|((with_reducible first|refine z25 ?_|refine z26 ?_);intro K hK;(conv=>whnf))|(with_reducible refine z0 ?_)|((first|((with_reducible refine NIf.decY ?s ?_);case s=>omega)|((with_reducible refine NIf.no ?s ?_);case s=>rfl)|((with_reducible refine NH.mk ?s ?_);case s=>(and_intros<;>first|with_reducible rfl|((with_reducible refine gOnes ?_);rfl)|((with_reducible refine gLen ?_);rfl))))<;>(conv=>whnf))|(with_reducible first|refine z3 ?_|refine z4 ?_|refine z7 ?_|refine z8 ?_)|((with_reducible refine z29 ?_);intro A B hA hB;(conv=>whnf))|(with_reducible first|refine z1 ?_|refine z2 ?_|refine z10 ?_|refine z11 ?_|refine z12 ?_|refine z19 ?_)|((with_reducible refine gR ?_);(refine z31 rfl ?_;intro K hK;(conv=>whnf)))))
      all_goals exact ⟨x,j1,G1,u,false,hle,hij,hjl,by rw [hres];rfl,rfl,.inl ⟨hrow,MemFits.pre 1 rfl⟩⟩
    · (repeat' (first|(with_reducible first|(refine hK _ _ ?_;clear hK K)|(refine hB ?_;clear hA hB A B)|(refine hK _ ?_;clear hK K))|((with_reducible first|refine z25 ?_|refine z26 ?_);intro K hK;(conv=>whnf))|(with_reducible refine z0 ?_)|((first|((with_reducible refine NIf.decN ?s ?_);case s=>omega)|((with_reducible refine NIf.no ?s ?_);case s=>rfl)|((with_reducible refine NH.mk ?s ?_);case s=>(and_intros<;>first|with_reducible rfl|((with_reducible refine gOnes ?_);rfl)|((with_reducible refine gLen ?_);rfl))))<;>(conv=>whnf))|(with_reducible first|refine z3 ?_|refine z4 ?_|refine z6 ?_|refine z7 ?_|refine z8 ?_)|((with_reducible refine z29 ?_);intro A B hA hB;(conv=>whnf))|(with_reducible first|refine z1 ?_|refine z2 ?_|refine z10 ?_|refine z11 ?_|refine z19 ?_)|((with_reducible refine gR ?_);(refine z31 rfl ?_;intro K hK;(conv=>whnf)))))
      all_goals exact ⟨Pd.T.mk 6 0 0 (ps.map (·.1)),j1,G1,w,false,hle,hij,hjl,by rw [hres];rfl,rfl,.inr ⟨ps,rfl,hall,MemFits.pick [0,3] (by decide) rfl⟩⟩
  | true =>
    rw [if_pos rfl] at hres
    obtain ⟨n,rfl⟩:∃ k,n=k+1:=⟨n - 1,by omega⟩
    have hx1:l[j1]?=some l[j1]:=List.getElem?_eq_getElem hjl
    have ci:=refis29_c G1 v l (Ps.Toks.mono hle hv) hn hx1 Ps.wOr
    have hnext:=hl.next hx1 (s:=Ps.wOr)
    unfold Ps.more at hres
    cases hq:Ps.is (l.map Lx.b) j1 Ps.wOr with
    | false =>
      rw [hq] at ci
      rw [hq,if_neg (by decide)] at hres
      unfold Ps.wOr at ci
      by_cases h1:ps.length=1
      · have e:=hone h1
        subst e
        (repeat' (first|(with_reducible first|(refine hK _ _ ?_;clear hK K)|(refine hA ?_;clear hA hB A B)|(refine hB ?_;clear hA hB A B)|(refine hK _ ?_;clear hK K))|((with_reducible first|refine z25 ?_|refine z26 ?_);intro K hK;(conv=>whnf))|(with_reducible refine z0 ?_)|((first|((with_reducible refine NIf.decY ?s ?_);case s=>omega)|((with_reducible refine NIf.yes ?s ?_);case s=>rfl)|((with_reducible refine NIf.no ?s ?_);case s=>rfl)|((with_reducible refine NH.mk ?s ?_);case s=>(and_intros<;>first|with_reducible rfl|((with_reducible refine gOnes ?_);rfl)|((with_reducible refine gLen ?_);rfl)))|((with_reducible refine NCall.isF 66 ?_);refine NCall.subE [0] (ci) rfl (by decide) rfl rfl ?_))<;>(conv=>whnf))|(with_reducible first|refine z3 ?_|refine z4 ?_|refine z7 ?_|refine z8 ?_)|((with_reducible refine z29 ?_);intro A B hA hB;(conv=>whnf))|(with_reducible first|refine z1 ?_|refine z2 ?_|refine z10 ?_|refine z11 ?_|refine z12 ?_|refine z19 ?_)|((with_reducible refine gR ?_);(refine z31 rfl ?_;intro K hK;(conv=>whnf)))))
        all_goals exact ⟨x,j1,G1,u,true,hle,hij,hjl,by rw [hres];rfl,rfl,.inl ⟨hrow,MemFits.pre 1 rfl⟩⟩
      · have hwn:=Ps.wrap_not (f:=fun xs=>Pd.T.mk 6 0 0 xs) (xs:=ps.map (·.1)) (j:=j1) (by rw [List.length_map];exact h1)
        (repeat' (first|(with_reducible first|(refine hK _ _ ?_;clear hK K)|(refine hB ?_;clear hA hB A B)|(refine hK _ ?_;clear hK K))|((with_reducible first|refine z25 ?_|refine z26 ?_);intro K hK;(conv=>whnf))|(with_reducible refine z0 ?_)|((first|((with_reducible refine NIf.decN ?s ?_);case s=>omega)|((with_reducible refine NIf.yes ?s ?_);case s=>rfl)|((with_reducible refine NIf.no ?s ?_);case s=>rfl)|((with_reducible refine NH.mk ?s ?_);case s=>(and_intros<;>first|with_reducible rfl|((with_reducible refine gOnes ?_);rfl)|((with_reducible refine gLen ?_);rfl)))|((with_reducible refine NCall.isF 66 ?_);refine NCall.subE [0] (ci) rfl (by decide) rfl rfl ?_))<;>(conv=>whnf))|(with_reducible first|refine z3 ?_|refine z4 ?_|refine z6 ?_|refine z7 ?_|refine z8 ?_)|((with_reducible refine z29 ?_);intro A B hA hB;(conv=>whnf))|(with_reducible first|refine z1 ?_|refine z2 ?_|refine z10 ?_|refine z11 ?_|refine z19 ?_)|((with_reducible refine gR ?_);(refine z31 rfl ?_;intro K hK;(conv=>whnf)))))
        all_goals exact ⟨Pd.T.mk 6 0 0 (ps.map (·.1)),j1,G1,w,true,hle,hij,hjl,by rw [hres];exact hwn,rfl,.inr ⟨ps,rfl,hall,MemFits.pick [0,3] (by decide) rfl⟩⟩
    | true =>
      rw [hq] at ci
      rw [hq,if_pos rfl] at hres
      unfold Ps.wOr at ci
      have c1:=hg (j1+1) (by omega) (hnext hq) G1 (Ps.Toks.mono hle hv)
      (repeat' (first|(with_reducible first|(refine hK _ _ ?_;clear hK K)|(refine hA ?_;clear hA hB A B))|((with_reducible first|refine z25 ?_|refine z26 ?_);intro K hK;(conv=>whnf))|(with_reducible refine z0 ?_)|((first|((with_reducible refine NV.i64 ?s ?_);case s=>omega)|((with_reducible refine NIf.yes ?s ?_);case s=>rfl)|((with_reducible refine NH.mk ?s ?_);case s=>(and_intros<;>first|with_reducible rfl|((with_reducible refine gOnes ?_);rfl)|((with_reducible refine gLen ?_);rfl)|omega))|((with_reducible refine NCall.isF 66 ?_);refine NCall.subE [0] (ci) rfl (by decide) rfl rfl ?_)|((with_reducible refine NCall.isF 70 ?_);refine NCall.subw [0] _ _ (c1) rfl (by decide) rfl ?_;rintro _ _ ⟨x2,u2,j2,G2,ok2,k1,k2,k3,k4,k5,rfl,rfl⟩;refine ⟨Nat.le_of_ble_eq_true rfl,_,rfl,?_⟩))<;>(conv=>whnf))|(with_reducible first|refine z3 ?_|refine z4 ?_|refine z5 ?_|refine z6 ?_)|((with_reducible refine z29 ?_);intro A B hA hB;(conv=>whnf))|(with_reducible first|refine z1 ?_|refine z2 ?_|refine z9 ?_)|((intro _;skip)<;>(conv=>whnf))))
      rename_i b3 w2
      have hpn:=Pd.psC_next ps (x2,u2)
      have hpl2:(ps++[(x2,u2)]).length=ps.length+1:=by rw [List.length_append];rfl
      have hres2:res=(if ok2=true then Ps.more (l.map Lx.b) Ps.wOr sp n ((ps++[(x2,u2)]).map (·.1)) j2 else .bad j2):=by
        rw [hres,k5,List.map_append]
        cases ok2<;>rfl
      refine st_round (G2,w2,ps++[(x2,u2)],(x2,u2),j2,ok2,n) ⟨hle.trans k1,fun p hp=>?_,k2,Nat.le_trans hij (Nat.le_trans (Nat.le_succ _) k3),k4,hres2,by dsimp only;omega,by dsimp only;rw [hpl2];omega,by dsimp only;rw [hpl2];omega,fun h=>by dsimp only at h;rw [hpl2] at h;omega⟩ (by show (if ok2=true then l.length - j2 else 0)<l.length - j1;split<;>omega) ?_ ?_
      · rcases List.mem_append.1 hp with hp | hp
        · exact Pd.Row.mono k1 (hall p hp)
        · rw [List.mem_singleton.1 hp];exact k2
      · dsimp only
        rw [hpl2]
        repeat (first|exact FitsSl.nil|refine FitsSl.any ?_|refine FitsSl.cons (Fit1.int (by first | rfl | omega)) ?_|refine FitsSl.cons (Fit1.bool rfl) ?_|refine FitsSl.cons (Fit1.same (by intro h;cases h) (by with_reducible rfl)) ?_)
      · dsimp only
        rw [hpn,hpl2]
        exact MemFits.pre 4 rfl
theorem refrow_c (v:Value) (l:List Lx.T) (hl:Ps.Good l) (sp:Nat→Ps.R Po.T) (i0:Nat) (hi0:i0<l.length) (hg:∀ i,i0≤i→i<l.length→Ps.D27 v l 87 (sp i) i):Ps.D27 v l 65 (Ps.wrap (fun xs=>Po.T.mk 3 Ps.none26 0 0 xs) (Ps.chain (l.map Lx.b) Ps.wSemi sp i0)) i0:=by
  intro F hv
  refine NCall.know (K:=fun r m=>∃ (y:Po.T) (j:Nat) (G:Heap) (pw w:Value) (ok:Bool),F.le G∧i0≤j∧j<l.length∧Ps.wrap (fun xs=>Po.T.mk 3 Ps.none26 0 0 xs) (Ps.chain (l.map Lx.b) Ps.wSemi sp i0)=(if ok=true then .ok y j else .bad j)∧r.den=(AV.tup [.agg (Po.cs y pw w),.int .i64 j,.bool ok]).den∧((Po.At G y pw w∧MemFits m [hpB G])∨(∃ ps:List (Po.L),y.l=ps.map (·.x)∧Pd.Row G pw y.p.l∧(∀ p∈ps,Po.At G p.x p.pu p.u)∧MemFits m [hpB G,⟨addrOf w,Po.psC ps,.row w 37 8 ps.length⟩]))) ?_ fun r m' hq ⟨w0,hw0⟩=>?_
  rotate_left
  · obtain ⟨y,j,G,pw,w,ok,h1,h2,h3,h4,h5,h6⟩:=hq
    rcases h6 with ⟨h6,h7⟩ | ⟨ps,e,hpw,h6,h7⟩
    · exact ⟨_,_,h5.symm,h7,y,pw,w,j,G,ok,h1,h6,h2,h3,h4,rfl,rfl⟩
    · have hok:=((h7 w0 hw0).1.row (List.mem_cons_of_mem _ (List.mem_cons_self ..))).1
      have hrow:=rowF_new (F:=G) (sz:=8) (enc:=Po.psV) hok (Po.psC_den ps) (fun x _=>rfl)
      have hr:=Po.row_of hrow fun p hp=>Po.At.mono addF.old (h6 p hp)
      rw [← e] at hr
      exact ⟨_,_,h5.symm,h7.trans (MemFits.freeze (m:=[])),y,pw,w,j,_,ok,h1.trans addF.old,⟨Pd.Row.mono addF.old hpw,hr⟩,h2,h3,h4,rfl,rfl⟩
  have c0:=hg i0 (Nat.le_refl _) hi0 F hv
  have hn:=hl.few
  have hspec:Ps.chain (l.map Lx.b) Ps.wSemi sp i0=match sp i0 with
    | .ok x j=>Ps.more (l.map Lx.b) Ps.wSemi sp ((l.map Lx.b).length+1 - j) [x] j
    | .bad j=>.bad j:=by unfold Ps.chain;cases sp i0<;>rfl
  have hlen:(l.map Lx.b).length=l.length:=List.length_map ..
  rw [hlen] at hspec
  generalize Ps.chain (l.map Lx.b) Ps.wSemi sp i0=res at *
  refine ncall_of Tryd.func65 rfl (by decide) ?_
  (repeat' (first|(with_reducible first|(refine hK _ _ ?_;clear hK K)|(refine hK _ ?_;clear hK K))|((with_reducible refine z25 ?_);intro K hK;(conv=>whnf))|(with_reducible refine z0 ?_)|((first|((with_reducible refine NH.mk ?s ?_);case s=>(and_intros<;>first|with_reducible rfl|((with_reducible refine gOnes ?_);rfl)|((with_reducible refine gLen ?_);rfl)|omega))|((with_reducible refine NCall.isF 87 ?_);refine NCall.subw [0] _ _ (c0) rfl (by decide) rfl ?_;rintro _ _ ⟨x,pu,u,j,G,ok,h1,h2,h3,h4,h5,rfl,rfl⟩;refine ⟨Nat.le_of_ble_eq_true rfl,_,rfl,?_⟩))<;>(conv=>whnf))|(with_reducible first|refine z3 ?_|refine z4 ?_|refine z5 ?_|refine z1 ?_|refine z2 ?_)|((with_reducible refine gF ?_);(refine z33 rfl ?_;intro K hK;(conv=>whnf)))|((intro _;skip)<;>(conv=>whnf))))
  rename_i b0 b1 b2
  have hinit:res=(if ok=true then Ps.more (l.map Lx.b) Ps.wSemi sp (l.length+1 - j) [x] j else .bad j):=by
    rw [hspec,h5]
    cases ok<;>rfl
  clear hspec h5
  refine st_auto (α:=Heap × Value × List (Po.L) × (Po.L) × Nat × Bool × Nat) (fun (G,w,ps,(⟨x,pu,u⟩:Po.L),j,ok,n)=>F.le G∧(∀ p∈ps,Po.At G p.x p.pu p.u)∧Po.At G x pu u∧i0≤j∧j<l.length∧res=(if ok=true then Ps.more (l.map Lx.b) Ps.wSemi sp n (ps.map (·.x)) j else .bad j)∧l.length - j<n∧1≤ps.length∧ps.length≤j+1∧(ps.length=1→ps=[⟨x,pu,u⟩]))
    (fun (G,w,ps,(⟨x,pu,u⟩:Po.L),j,ok,n)=>[.keep,.keep,.keep,.keep,.keep,.keep,.keep,.keep,.set (.int .i64 j),.set (.bool ok),.set (.sl 3 w ps.length),.keep,.keep,.keep,.keep,.keep,.keep,.keep,.keep,.keep,.drop,.drop,.drop,.drop,.drop,.drop,.drop,.drop,.drop,.drop,.drop,.drop,.drop,.drop,.drop,.drop,.drop,.drop,.keep,.keep,.keep,.keep,.keep,.keep,.keep,.keep,.keep,.keep]) (fun (G,w,ps,(⟨x,pu,u⟩:Po.L),j,ok,n)=>[.set (hpB G),.keep,.set ⟨⟨b1,0,none⟩,Po.cs x pu u,.var 37⟩,.set ⟨addrOf w,Po.psC ps,.row w 37 8 ps.length⟩]) (fun (G,w,ps,(⟨x,pu,u⟩:Po.L),j,ok,n)=>if ok=true then l.length - j else 0)
    (G,.slice (some ⟨b2,0,none⟩) 1 1,[⟨x,pu,u⟩],⟨x,pu,u⟩,j,ok,l.length+1 - j) ⟨h1,fun p hp=>by rw [List.mem_singleton.1 hp];exact h2,h2,h3,h4,hinit,by omega,Nat.le_refl _,by simp,fun _=>rfl⟩ ?_ ?_ ?_
  · repeat (first|exact FitsSl.nil|refine FitsSl.any ?_|refine FitsSl.cons (Fit1.int (by first | rfl | omega)) ?_|refine FitsSl.cons (Fit1.bool rfl) ?_|refine FitsSl.cons (Fit1.same (by intro h;cases h) (by with_reducible rfl)) ?_|refine FitsSl.cons (Fit1.sl rfl) ?_)
  · exact MemFits.eq rfl
  (intro ⟨G1,w,ps,⟨x,pu,u⟩,j1,ok1,n⟩ ⟨hle,hall,hrow,hij,hjl,hres,hnl,hp1,hpl,hone⟩;intro K hK;(conv=>whnf);refine hK _ _ ?_;clear hK K)
  dsimp only at hle hall hrow hij hjl hres hnl hp1 hpl hone ⊢
  have hpc:=Po.psC_len ps
  cases ok1 with
  | false =>
    rw [if_neg (by decide)] at hres
    by_cases h1:ps.length=1
    · (repeat' (first|(with_reducible first|(refine hK _ _ ?_;clear hK K)|(refine hA ?_;clear hA hB A B)|(refine hB ?_;clear hA hB A B)|(refine hK _ ?_;clear hK K))|((with_reducible first|refine z25 ?_|refine z26 ?_);intro K hK;(conv=>whnf))|(with_reducible refine z0 ?_)|((first|((with_reducible refine NIf.decY ?s ?_);case s=>omega)|((with_reducible refine NIf.no ?s ?_);case s=>rfl)|((with_reducible refine NH.mk ?s ?_);case s=>(and_intros<;>first|with_reducible rfl|((with_reducible refine gOnes ?_);rfl)|((with_reducible refine gLen ?_);rfl))))<;>(conv=>whnf))|(with_reducible first|refine z3 ?_|refine z4 ?_|refine z7 ?_|refine z8 ?_)|((with_reducible refine z29 ?_);intro A B hA hB;(conv=>whnf))|(with_reducible first|refine z1 ?_|refine z2 ?_|refine z10 ?_|refine z11 ?_|refine z12 ?_|refine z19 ?_)|((with_reducible refine gR ?_);(refine z31 rfl ?_;intro K hK;(conv=>whnf)))))
      all_goals exact ⟨x,j1,G1,pu,u,false,hle,hij,hjl,by rw [hres];rfl,rfl,.inl ⟨hrow,MemFits.pre 1 rfl⟩⟩
    · (repeat' (first|(with_reducible first|(refine hK _ _ ?_;clear hK K)|(refine hB ?_;clear hA hB A B)|(refine hK _ ?_;clear hK K))|((with_reducible first|refine z25 ?_|refine z26 ?_);intro K hK;(conv=>whnf))|(with_reducible refine z0 ?_)|((first|((with_reducible refine NIf.decN ?s ?_);case s=>omega)|((with_reducible refine NIf.no ?s ?_);case s=>rfl)|((with_reducible refine NH.mk ?s ?_);case s=>(and_intros<;>first|with_reducible rfl|((with_reducible refine gOnes ?_);rfl)|((with_reducible refine gLen ?_);rfl))))<;>(conv=>whnf))|(with_reducible first|refine z3 ?_|refine z4 ?_|refine z6 ?_|refine z7 ?_|refine z8 ?_)|((with_reducible refine z29 ?_);intro A B hA hB;(conv=>whnf))|(with_reducible first|refine z1 ?_|refine z2 ?_|refine z10 ?_|refine z11 ?_|refine z19 ?_)|((with_reducible refine gR ?_);(refine z31 rfl ?_;intro K hK;(conv=>whnf)))))
      all_goals exact ⟨Po.T.mk 3 Ps.none26 0 0 (ps.map (·.x)),j1,G1,.slice none 0 0,w,false,hle,hij,hjl,by rw [hres];rfl,rfl,.inr ⟨ps,rfl,RowF.nil,hall,MemFits.pick [0,3] (by decide) rfl⟩⟩
  | true =>
    rw [if_pos rfl] at hres
    obtain ⟨n,rfl⟩:∃ k,n=k+1:=⟨n - 1,by omega⟩
    have hx1:l[j1]?=some l[j1]:=List.getElem?_eq_getElem hjl
    have ci:=refis29_c G1 v l (Ps.Toks.mono hle hv) hn hx1 Ps.wSemi
    have hnext:=hl.next hx1 (s:=Ps.wSemi)
    unfold Ps.more at hres
    cases hq:Ps.is (l.map Lx.b) j1 Ps.wSemi with
    | false =>
      rw [hq] at ci
      rw [hq,if_neg (by decide)] at hres
      unfold Ps.wSemi at ci
      by_cases h1:ps.length=1
      · have e:=hone h1
        subst e
        (repeat' (first|(with_reducible first|(refine hK _ _ ?_;clear hK K)|(refine hA ?_;clear hA hB A B)|(refine hB ?_;clear hA hB A B)|(refine hK _ ?_;clear hK K))|((with_reducible first|refine z25 ?_|refine z26 ?_);intro K hK;(conv=>whnf))|(with_reducible refine z0 ?_)|((first|((with_reducible refine NIf.decY ?s ?_);case s=>omega)|((with_reducible refine NIf.yes ?s ?_);case s=>rfl)|((with_reducible refine NIf.no ?s ?_);case s=>rfl)|((with_reducible refine NH.mk ?s ?_);case s=>(and_intros<;>first|with_reducible rfl|((with_reducible refine gOnes ?_);rfl)|((with_reducible refine gLen ?_);rfl)))|((with_reducible refine NCall.isF 66 ?_);refine NCall.subE [0] (ci) rfl (by decide) rfl rfl ?_))<;>(conv=>whnf))|(with_reducible first|refine z3 ?_|refine z4 ?_|refine z7 ?_|refine z8 ?_)|((with_reducible refine z29 ?_);intro A B hA hB;(conv=>whnf))|(with_reducible first|refine z1 ?_|refine z2 ?_|refine z10 ?_|refine z11 ?_|refine z12 ?_|refine z19 ?_)|((with_reducible refine gR ?_);(refine z31 rfl ?_;intro K hK;(conv=>whnf)))))
        all_goals exact ⟨x,j1,G1,pu,u,true,hle,hij,hjl,by rw [hres];rfl,rfl,.inl ⟨hrow,MemFits.pre 1 rfl⟩⟩
      · have hwn:=Ps.wrap_not (f:=fun xs=>Po.T.mk 3 Ps.none26 0 0 xs) (xs:=ps.map (·.x)) (j:=j1) (by rw [List.length_map];exact h1)
        (repeat' (first|(with_reducible first|(refine hK _ _ ?_;clear hK K)|(refine hB ?_;clear hA hB A B)|(refine hK _ ?_;clear hK K))|((with_reducible first|refine z25 ?_|refine z26 ?_);intro K hK;(conv=>whnf))|(with_reducible refine z0 ?_)|((first|((with_reducible refine NIf.decN ?s ?_);case s=>omega)|((with_reducible refine NIf.yes ?s ?_);case s=>rfl)|((with_reducible refine NIf.no ?s ?_);case s=>rfl)|((with_reducible refine NH.mk ?s ?_);case s=>(and_intros<;>first|with_reducible rfl|((with_reducible refine gOnes ?_);rfl)|((with_reducible refine gLen ?_);rfl)))|((with_reducible refine NCall.isF 66 ?_);refine NCall.subE [0] (ci) rfl (by decide) rfl rfl ?_))<;>(conv=>whnf))|(with_reducible first|refine z3 ?_|refine z4 ?_|refine z6 ?_|refine z7 ?_|refine z8 ?_)|((with_reducible refine z29 ?_);intro A B hA hB;(conv=>whnf))|(with_reducible first|refine z1 ?_|refine z2 ?_|refine z10 ?_|refine z11 ?_|refine z19 ?_)|((with_reducible refine gR ?_);(refine z31 rfl ?_;intro K hK;(conv=>whnf)))))
        all_goals exact ⟨Po.T.mk 3 Ps.none26 0 0 (ps.map (·.x)),j1,G1,.slice none 0 0,w,true,hle,hij,hjl,by rw [hres];exact hwn,rfl,.inr ⟨ps,rfl,RowF.nil,hall,MemFits.pick [0,3] (by decide) rfl⟩⟩
    | true =>
      rw [hq] at ci
      rw [hq,if_pos rfl] at hres
      unfold Ps.wSemi at ci
      have c1:=hg (j1+1) (by omega) (hnext hq) G1 (Ps.Toks.mono hle hv)
      (repeat' (first|(with_reducible first|(refine hK _ _ ?_;clear hK K)|(refine hA ?_;clear hA hB A B))|((with_reducible first|refine z25 ?_|refine z26 ?_);intro K hK;(conv=>whnf))|(with_reducible refine z0 ?_)|((first|((with_reducible refine NV.i64 ?s ?_);case s=>omega)|((with_reducible refine NIf.yes ?s ?_);case s=>rfl)|((with_reducible refine NH.mk ?s ?_);case s=>(and_intros<;>first|with_reducible rfl|((with_reducible refine gOnes ?_);rfl)|((with_reducible refine gLen ?_);rfl)|omega))|((with_reducible refine NCall.isF 66 ?_);refine NCall.subE [0] (ci) rfl (by decide) rfl rfl ?_)|((with_reducible refine NCall.isF 87 ?_);refine NCall.subw [0] _ _ (c1) rfl (by decide) rfl ?_;rintro _ _ ⟨x2,pu2,u2,j2,G2,ok2,k1,k2,k3,k4,k5,rfl,rfl⟩;refine ⟨Nat.le_of_ble_eq_true rfl,_,rfl,?_⟩))<;>(conv=>whnf))|(with_reducible first|refine z3 ?_|refine z4 ?_|refine z5 ?_|refine z6 ?_)|((with_reducible refine z29 ?_);intro A B hA hB;(conv=>whnf))|(with_reducible first|refine z1 ?_|refine z2 ?_|refine z9 ?_)|((intro _;skip)<;>(conv=>whnf))))
      rename_i b3 w2
      have hpn:=Po.psC_next ps (⟨x2,pu2,u2⟩:Po.L)
      have hpl2:(ps++[(⟨x2,pu2,u2⟩:Po.L)]).length=ps.length+1:=by rw [List.length_append];rfl
      have hres2:res=(if ok2=true then Ps.more (l.map Lx.b) Ps.wSemi sp n ((ps++[(⟨x2,pu2,u2⟩:Po.L)]).map (·.x)) j2 else .bad j2):=by
        rw [hres,k5,List.map_append]
        cases ok2<;>rfl
      refine st_round (G2,w2,ps++[⟨x2,pu2,u2⟩],⟨x2,pu2,u2⟩,j2,ok2,n) ⟨hle.trans k1,fun p hp=>?_,k2,Nat.le_trans hij (Nat.le_trans (Nat.le_succ _) k3),k4,hres2,by dsimp only;omega,by dsimp only;rw [hpl2];omega,by dsimp only;rw [hpl2];omega,fun h=>by dsimp only at h;rw [hpl2] at h;omega⟩ (by show (if ok2=true then l.length - j2 else 0)<l.length - j1;split<;>omega) ?_ ?_
      · rcases List.mem_append.1 hp with hp | hp
        · exact Po.At.mono k1 (hall p hp)
        · rw [List.mem_singleton.1 hp];exact k2
      · dsimp only
        rw [hpl2]
        repeat (first|exact FitsSl.nil|refine FitsSl.any ?_|refine FitsSl.cons (Fit1.int (by first | rfl | omega)) ?_|refine FitsSl.cons (Fit1.bool rfl) ?_|refine FitsSl.cons (Fit1.same (by intro h;cases h) (by with_reducible rfl)) ?_)
      · dsimp only
        rw [hpn,hpl2]
        exact MemFits.pre 4 rfl
theorem refrows_c (v:Value) (l:List Lx.T) (hl:Ps.Good l) (sp:Nat→Ps.R Po.T) (i0:Nat) (hi0:i0<l.length) (hg:∀ i,i0≤i→i<l.length→Ps.D27 v l 65 (sp i) i):Ps.D27 v l 29 (Ps.wrap (fun xs=>Po.T.mk 4 Ps.none26 0 0 xs) (Ps.chain (l.map Lx.b) Ps.wBar sp i0)) i0:=by
  intro F hv
  refine NCall.know (K:=fun r m=>∃ (y:Po.T) (j:Nat) (G:Heap) (pw w:Value) (ok:Bool),F.le G∧i0≤j∧j<l.length∧Ps.wrap (fun xs=>Po.T.mk 4 Ps.none26 0 0 xs) (Ps.chain (l.map Lx.b) Ps.wBar sp i0)=(if ok=true then .ok y j else .bad j)∧r.den=(AV.tup [.agg (Po.cs y pw w),.int .i64 j,.bool ok]).den∧((Po.At G y pw w∧MemFits m [hpB G])∨(∃ ps:List (Po.L),y.l=ps.map (·.x)∧Pd.Row G pw y.p.l∧(∀ p∈ps,Po.At G p.x p.pu p.u)∧MemFits m [hpB G,⟨addrOf w,Po.psC ps,.row w 37 8 ps.length⟩]))) ?_ fun r m' hq ⟨w0,hw0⟩=>?_
  rotate_left
  · obtain ⟨y,j,G,pw,w,ok,h1,h2,h3,h4,h5,h6⟩:=hq
    rcases h6 with ⟨h6,h7⟩ | ⟨ps,e,hpw,h6,h7⟩
    · exact ⟨_,_,h5.symm,h7,y,pw,w,j,G,ok,h1,h6,h2,h3,h4,rfl,rfl⟩
    · have hok:=((h7 w0 hw0).1.row (List.mem_cons_of_mem _ (List.mem_cons_self ..))).1
      have hrow:=rowF_new (F:=G) (sz:=8) (enc:=Po.psV) hok (Po.psC_den ps) (fun x _=>rfl)
      have hr:=Po.row_of hrow fun p hp=>Po.At.mono addF.old (h6 p hp)
      rw [← e] at hr
      exact ⟨_,_,h5.symm,h7.trans (MemFits.freeze (m:=[])),y,pw,w,j,_,ok,h1.trans addF.old,⟨Pd.Row.mono addF.old hpw,hr⟩,h2,h3,h4,rfl,rfl⟩
  have c0:=hg i0 (Nat.le_refl _) hi0 F hv
  have hn:=hl.few
  have hspec:Ps.chain (l.map Lx.b) Ps.wBar sp i0=match sp i0 with
    | .ok x j=>Ps.more (l.map Lx.b) Ps.wBar sp ((l.map Lx.b).length+1 - j) [x] j
    | .bad j=>.bad j:=by unfold Ps.chain;cases sp i0<;>rfl
  have hlen:(l.map Lx.b).length=l.length:=List.length_map ..
  rw [hlen] at hspec
  generalize Ps.chain (l.map Lx.b) Ps.wBar sp i0=res at *
  refine ncall_of Tryd.func29 rfl (by decide) ?_
  (repeat' (first|(with_reducible first|(refine hK _ _ ?_;clear hK K)|(refine hK _ ?_;clear hK K))|((with_reducible refine z25 ?_);intro K hK;(conv=>whnf))|(with_reducible refine z0 ?_)|((first|((with_reducible refine NH.mk ?s ?_);case s=>(and_intros<;>first|with_reducible rfl|((with_reducible refine gOnes ?_);rfl)|((with_reducible refine gLen ?_);rfl)|omega))|((with_reducible refine NCall.isF 65 ?_);refine NCall.subw [0] _ _ (c0) rfl (by decide) rfl ?_;rintro _ _ ⟨x,pu,u,j,G,ok,h1,h2,h3,h4,h5,rfl,rfl⟩;refine ⟨Nat.le_of_ble_eq_true rfl,_,rfl,?_⟩))<;>(conv=>whnf))|(with_reducible first|refine z3 ?_|refine z4 ?_|refine z5 ?_|refine z1 ?_|refine z2 ?_)|((with_reducible refine gF ?_);(refine z33 rfl ?_;intro K hK;(conv=>whnf)))|((intro _;skip)<;>(conv=>whnf))))
  rename_i b0 b1 b2
  have hinit:res=(if ok=true then Ps.more (l.map Lx.b) Ps.wBar sp (l.length+1 - j) [x] j else .bad j):=by
    rw [hspec,h5]
    cases ok<;>rfl
  clear hspec h5
  refine st_auto (α:=Heap × Value × List (Po.L) × (Po.L) × Nat × Bool × Nat) (fun (G,w,ps,(⟨x,pu,u⟩:Po.L),j,ok,n)=>F.le G∧(∀ p∈ps,Po.At G p.x p.pu p.u)∧Po.At G x pu u∧i0≤j∧j<l.length∧res=(if ok=true then Ps.more (l.map Lx.b) Ps.wBar sp n (ps.map (·.x)) j else .bad j)∧l.length - j<n∧1≤ps.length∧ps.length≤j+1∧(ps.length=1→ps=[⟨x,pu,u⟩]))
    (fun (G,w,ps,(⟨x,pu,u⟩:Po.L),j,ok,n)=>[.keep,.keep,.keep,.keep,.keep,.keep,.keep,.keep,.set (.int .i64 j),.set (.bool ok),.set (.sl 3 w ps.length),.keep,.keep,.keep,.keep,.keep,.keep,.keep,.keep,.keep,.drop,.drop,.drop,.drop,.drop,.drop,.drop,.drop,.drop,.drop,.drop,.drop,.drop,.drop,.drop,.drop,.drop,.drop,.keep,.keep,.keep,.keep,.keep,.keep,.keep,.keep,.keep,.keep]) (fun (G,w,ps,(⟨x,pu,u⟩:Po.L),j,ok,n)=>[.set (hpB G),.keep,.set ⟨⟨b1,0,none⟩,Po.cs x pu u,.var 37⟩,.set ⟨addrOf w,Po.psC ps,.row w 37 8 ps.length⟩]) (fun (G,w,ps,(⟨x,pu,u⟩:Po.L),j,ok,n)=>if ok=true then l.length - j else 0)
    (G,.slice (some ⟨b2,0,none⟩) 1 1,[⟨x,pu,u⟩],⟨x,pu,u⟩,j,ok,l.length+1 - j) ⟨h1,fun p hp=>by rw [List.mem_singleton.1 hp];exact h2,h2,h3,h4,hinit,by omega,Nat.le_refl _,by simp,fun _=>rfl⟩ ?_ ?_ ?_
  · repeat (first|exact FitsSl.nil|refine FitsSl.any ?_|refine FitsSl.cons (Fit1.int (by first | rfl | omega)) ?_|refine FitsSl.cons (Fit1.bool rfl) ?_|refine FitsSl.cons (Fit1.same (by intro h;cases h) (by with_reducible rfl)) ?_|refine FitsSl.cons (Fit1.sl rfl) ?_)
  · exact MemFits.eq rfl
  (intro ⟨G1,w,ps,⟨x,pu,u⟩,j1,ok1,n⟩ ⟨hle,hall,hrow,hij,hjl,hres,hnl,hp1,hpl,hone⟩;intro K hK;(conv=>whnf);refine hK _ _ ?_;clear hK K)
  dsimp only at hle hall hrow hij hjl hres hnl hp1 hpl hone ⊢
  have hpc:=Po.psC_len ps
  cases ok1 with
  | false =>
    rw [if_neg (by decide)] at hres
    by_cases h1:ps.length=1
    · (repeat' (first|(with_reducible first|(refine hK _ _ ?_;clear hK K)|(refine hA ?_;clear hA hB A B)|(refine hB ?_;clear hA hB A B)|(refine hK _ ?_;clear hK K))|((with_reducible first|refine z25 ?_|refine z26 ?_);intro K hK;(conv=>whnf))|(with_reducible refine z0 ?_)|((first|((with_reducible refine NIf.decY ?s ?_);case s=>omega)|((with_reducible refine NIf.no ?s ?_);case s=>rfl)|((with_reducible refine NH.mk ?s ?_);case s=>(and_intros<;>first|with_reducible rfl|((with_reducible refine gOnes ?_);rfl)|((with_reducible refine gLen ?_);rfl))))<;>(conv=>whnf))|(with_reducible first|refine z3 ?_|refine z4 ?_|refine z7 ?_|refine z8 ?_)|((with_reducible refine z29 ?_);intro A B hA hB;(conv=>whnf))|(with_reducible first|refine z1 ?_|refine z2 ?_|refine z10 ?_|refine z11 ?_|refine z12 ?_|refine z19 ?_)|((with_reducible refine gR ?_);(refine z31 rfl ?_;intro K hK;(conv=>whnf)))))
      all_goals exact ⟨x,j1,G1,pu,u,false,hle,hij,hjl,by rw [hres];rfl,rfl,.inl ⟨hrow,MemFits.pre 1 rfl⟩⟩
    · (repeat' (first|(with_reducible first|(refine hK _ _ ?_;clear hK K)|(refine hB ?_;clear hA hB A B)|(refine hK _ ?_;clear hK K))|((with_reducible first|refine z25 ?_|refine z26 ?_);intro K hK;(conv=>whnf))|(with_reducible refine z0 ?_)|((first|((with_reducible refine NIf.decN ?s ?_);case s=>omega)|((with_reducible refine NIf.no ?s ?_);case s=>rfl)|((with_reducible refine NH.mk ?s ?_);case s=>(and_intros<;>first|with_reducible rfl|((with_reducible refine gOnes ?_);rfl)|((with_reducible refine gLen ?_);rfl))))<;>(conv=>whnf))|(with_reducible first|refine z3 ?_|refine z4 ?_|refine z6 ?_|refine z7 ?_|refine z8 ?_)|((with_reducible refine z29 ?_);intro A B hA hB;(conv=>whnf))|(with_reducible first|refine z1 ?_|refine z2 ?_|refine z10 ?_|refine z11 ?_|refine z19 ?_)|((with_reducible refine gR ?_);(refine z31 rfl ?_;intro K hK;(conv=>whnf)))))
      all_goals exact ⟨Po.T.mk 4 Ps.none26 0 0 (ps.map (·.x)),j1,G1,.slice none 0 0,w,false,hle,hij,hjl,by rw [hres];rfl,rfl,.inr ⟨ps,rfl,RowF.nil,hall,MemFits.pick [0,3] (by decide) rfl⟩⟩
  | true =>
    rw [if_pos rfl] at hres
    obtain ⟨n,rfl⟩:∃ k,n=k+1:=⟨n - 1,by omega⟩
    have hx1:l[j1]?=some l[j1]:=List.getElem?_eq_getElem hjl
    have ci:=refis29_c G1 v l (Ps.Toks.mono hle hv) hn hx1 Ps.wBar
    have hnext:=hl.next hx1 (s:=Ps.wBar)
    unfold Ps.more at hres
    cases hq:Ps.is (l.map Lx.b) j1 Ps.wBar with
    | false =>
      rw [hq] at ci
      rw [hq,if_neg (by decide)] at hres
      unfold Ps.wBar at ci
      by_cases h1:ps.length=1
      · have e:=hone h1
        subst e
        (repeat' (first|(with_reducible first|(refine hK _ _ ?_;clear hK K)|(refine hA ?_;clear hA hB A B)|(refine hB ?_;clear hA hB A B)|(refine hK _ ?_;clear hK K))|((with_reducible first|refine z25 ?_|refine z26 ?_);intro K hK;(conv=>whnf))|(with_reducible refine z0 ?_)|((first|((with_reducible refine NIf.decY ?s ?_);case s=>omega)|((with_reducible refine NIf.yes ?s ?_);case s=>rfl)|((with_reducible refine NIf.no ?s ?_);case s=>rfl)|((with_reducible refine NH.mk ?s ?_);case s=>(and_intros<;>first|with_reducible rfl|((with_reducible refine gOnes ?_);rfl)|((with_reducible refine gLen ?_);rfl)))|((with_reducible refine NCall.isF 66 ?_);refine NCall.subE [0] (ci) rfl (by decide) rfl rfl ?_))<;>(conv=>whnf))|(with_reducible first|refine z3 ?_|refine z4 ?_|refine z7 ?_|refine z8 ?_)|((with_reducible refine z29 ?_);intro A B hA hB;(conv=>whnf))|(with_reducible first|refine z1 ?_|refine z2 ?_|refine z10 ?_|refine z11 ?_|refine z12 ?_|refine z19 ?_)|((with_reducible refine gR ?_);(refine z31 rfl ?_;intro K hK;(conv=>whnf)))))
        all_goals exact ⟨x,j1,G1,pu,u,true,hle,hij,hjl,by rw [hres];rfl,rfl,.inl ⟨hrow,MemFits.pre 1 rfl⟩⟩
      · have hwn:=Ps.wrap_not (f:=fun xs=>Po.T.mk 4 Ps.none26 0 0 xs) (xs:=ps.map (·.x)) (j:=j1) (by rw [List.length_map];exact h1)
        (repeat' (first|(with_reducible first|(refine hK _ _ ?_;clear hK K)|(refine hB ?_;clear hA hB A B)|(refine hK _ ?_;clear hK K))|((with_reducible first|refine z25 ?_|refine z26 ?_);intro K hK;(conv=>whnf))|(with_reducible refine z0 ?_)|((first|((with_reducible refine NIf.decN ?s ?_);case s=>omega)|((with_reducible refine NIf.yes ?s ?_);case s=>rfl)|((with_reducible refine NIf.no ?s ?_);case s=>rfl)|((with_reducible refine NH.mk ?s ?_);case s=>(and_intros<;>first|with_reducible rfl|((with_reducible refine gOnes ?_);rfl)|((with_reducible refine gLen ?_);rfl)))|((with_reducible refine NCall.isF 66 ?_);refine NCall.subE [0] (ci) rfl (by decide) rfl rfl ?_))<;>(conv=>whnf))|(with_reducible first|refine z3 ?_|refine z4 ?_|refine z6 ?_|refine z7 ?_|refine z8 ?_)|((with_reducible refine z29 ?_);intro A B hA hB;(conv=>whnf))|(with_reducible first|refine z1 ?_|refine z2 ?_|refine z10 ?_|refine z11 ?_|refine z19 ?_)|((with_reducible refine gR ?_);(refine z31 rfl ?_;intro K hK;(conv=>whnf)))))
        all_goals exact ⟨Po.T.mk 4 Ps.none26 0 0 (ps.map (·.x)),j1,G1,.slice none 0 0,w,true,hle,hij,hjl,by rw [hres];exact hwn,rfl,.inr ⟨ps,rfl,RowF.nil,hall,MemFits.pick [0,3] (by decide) rfl⟩⟩
    | true =>
      rw [hq] at ci
      rw [hq,if_pos rfl] at hres
      unfold Ps.wBar at ci
      have c1:=hg (j1+1) (by omega) (hnext hq) G1 (Ps.Toks.mono hle hv)
      (repeat' (first|(with_reducible first|(refine hK _ _ ?_;clear hK K)|(refine hA ?_;clear hA hB A B))|((with_reducible first|refine z25 ?_|refine z26 ?_);intro K hK;(conv=>whnf))|(with_reducible refine z0 ?_)|((first|((with_reducible refine NV.i64 ?s ?_);case s=>omega)|((with_reducible refine NIf.yes ?s ?_);case s=>rfl)|((with_reducible refine NH.mk ?s ?_);case s=>(and_intros<;>first|with_reducible rfl|((with_reducible refine gOnes ?_);rfl)|((with_reducible refine gLen ?_);rfl)|omega))|((with_reducible refine NCall.isF 66 ?_);refine NCall.subE [0] (ci) rfl (by decide) rfl rfl ?_)|((with_reducible refine NCall.isF 65 ?_);refine NCall.subw [0] _ _ (c1) rfl (by decide) rfl ?_;rintro _ _ ⟨x2,pu2,u2,j2,G2,ok2,k1,k2,k3,k4,k5,rfl,rfl⟩;refine ⟨Nat.le_of_ble_eq_true rfl,_,rfl,?_⟩))<;>(conv=>whnf))|(with_reducible first|refine z3 ?_|refine z4 ?_|refine z5 ?_|refine z6 ?_)|((with_reducible refine z29 ?_);intro A B hA hB;(conv=>whnf))|(with_reducible first|refine z1 ?_|refine z2 ?_|refine z9 ?_)|((intro _;skip)<;>(conv=>whnf))))
      rename_i b3 w2
      have hpn:=Po.psC_next ps (⟨x2,pu2,u2⟩:Po.L)
      have hpl2:(ps++[(⟨x2,pu2,u2⟩:Po.L)]).length=ps.length+1:=by rw [List.length_append];rfl
      have hres2:res=(if ok2=true then Ps.more (l.map Lx.b) Ps.wBar sp n ((ps++[(⟨x2,pu2,u2⟩:Po.L)]).map (·.x)) j2 else .bad j2):=by
        rw [hres,k5,List.map_append]
        cases ok2<;>rfl
      refine st_round (G2,w2,ps++[⟨x2,pu2,u2⟩],⟨x2,pu2,u2⟩,j2,ok2,n) ⟨hle.trans k1,fun p hp=>?_,k2,Nat.le_trans hij (Nat.le_trans (Nat.le_succ _) k3),k4,hres2,by dsimp only;omega,by dsimp only;rw [hpl2];omega,by dsimp only;rw [hpl2];omega,fun h=>by dsimp only at h;rw [hpl2] at h;omega⟩ (by show (if ok2=true then l.length - j2 else 0)<l.length - j1;split<;>omega) ?_ ?_
      · rcases List.mem_append.1 hp with hp | hp
        · exact Po.At.mono k1 (hall p hp)
        · rw [List.mem_singleton.1 hp];exact k2
      · dsimp only
        rw [hpl2]
        repeat (first|exact FitsSl.nil|refine FitsSl.any ?_|refine FitsSl.cons (Fit1.int (by first | rfl | omega)) ?_|refine FitsSl.cons (Fit1.bool rfl) ?_|refine FitsSl.cons (Fit1.same (by intro h;cases h) (by with_reducible rfl)) ?_)
      · dsimp only
        rw [hpn,hpl2]
        exact MemFits.pre 4 rfl
end Go.Proofs.YtaojbkphcnailaaDoor
