import Derived.Test.YtaojbkphcnailaaDoorJ7
import Derived.Test.YtaojbkphcnailaaDoorJ8
namespace Go.Proofs.YtaojbkphcnailaaDoor
open Go.Sx
set_option maxRecDepth 20000
set_option linter.unusedSimpArgs false
set_option linter.unusedVariables false
set_option maxHeartbeats 4000000
set_option linter.unusedVariables false
namespace Pd
def psC (ps:List (T × Value)):List AV:=ps.flatMap fun p=>cs p.1 p.2
def psV (p:T × Value):List Value:=denL (cs p.1 p.2)
theorem psC_den:∀ ps,denL (psC ps)=ps.flatMap psV
  | []=>rfl
  | p::ps=>by
    have:=psC_den ps
    unfold psC at *
    rw [List.flatMap_cons,List.flatMap_cons,denL_append,this]
    rfl
theorem psC_len (ps:List (T × Value)):(psC ps).length=ps.length*4:=by
  induction ps with
  | nil=>rfl
  | cons p ps ih =>
    unfold psC at *
    rw [List.flatMap_cons,List.length_append,ih,List.length_cons]
    show 4+_=_
    omega
theorem psC_next (ps:List (T × Value)) (p:T × Value):psC (ps++[p])=psC ps++cs p.1 p.2:=by
  unfold psC
  rw [List.flatMap_append]
  simp
def Got (F:Heap) (t:TypeId) (X:T) (v:AV) (m:List Blk):Prop :=
  ∃ G u,∃ ps:List (T × Value),F.le G∧ps.map (·.1)=X.l∧(∀ p∈ps,Row G p.2 p.1.l)∧v.den=(AV.agg (cs X u)).den∧MemFits m [hpB G,⟨addrOf u,psC ps,.row u t 4 ps.length⟩]
theorem row_of {G:Heap} {u:Value} {ps:List (T × Value)} (h:RowF G 4 (fun p vs=>vs=psV p) u ps) (hall:∀ p∈ps,Row G p.2 p.1.l):Row G u (ps.map (·.1)):=by
  refine ⟨by rw [List.length_map];exact h.ok,fun k x hx=>?_⟩
  rw [List.getElem?_map] at hx
  cases hp:ps[k]? with
  | none=>rw [hp] at hx;cases hx
  | some p =>
    rw [hp] at hx
    simp only [Option.map_some,Option.some.injEq] at hx
    subst hx
    obtain ⟨vs,h1,h2,h3⟩:=h.at_ k p hp
    have hr:=hall p (List.mem_of_getElem? hp)
    refine ⟨vs,?_,h2,h3⟩
    obtain ⟨A,cap,hv,hle,hz⟩:=hr.ok
    rw [h1]
    obtain ⟨x,w⟩:=p
    dsimp only at hv hr ⊢
    subst hv
    exact R.of hr
theorem got_know {f:FuncId} {args:List AV} {F:Heap} {t:TypeId} {m:List Blk} {X:T} (h:NCall Tryd.prog f args m fun v m'=>Got F t X v m') :
    NCall Tryd.prog f args m fun v m'=>∃ F' u,F.le F'∧Row F' u X.l∧v = .agg (cs X u)∧m'=[hpB F']:=by
  refine Go.Sx.NCall.know h fun r m' ⟨G,u,ps,hle,hmap,hall,hr,hm⟩ ⟨w,hw⟩=>?_
  have hok:=((hm w hw).1.row (List.mem_cons_of_mem _ (List.mem_cons_self ..))).1
  have hrow:=rowF_new (F:=G) (sz:=4) (enc:=psV) hok (psC_den ps) (fun x _=>rfl)
  refine ⟨_,_,hr.symm,hm.trans (MemFits.freeze (m:=[])),_,u,hle.trans addF.old,?_,rfl,rfl⟩
  rw [← hmap]
  exact row_of hrow fun p hp=>Row.mono addF.old (hall p hp)
abbrev Lays (F:Heap) (X:T) (r:AV) (m:List Blk):Prop:=∃ F' u,F.le F'∧Row F' u X.l∧r = .agg (cs X u)∧m=[hpB F']
end Pd
theorem theirs26_c:∀ (n:Nat) (F:Heap) (p:Pd.T) (u:Value),Pd.size p≤n→Pd.size p≤2932031007402→Pd.Row F u p.l →
    NCall Tryd.prog 14 [.agg (Pd.cs p u)] [hpB F] fun r m=>Pd.Lays F p r m
  | 0,F,p,u,hn,_,_=>absurd (Pd.size_pos p) (by omega)
  | n+1,F,⟨k,f,v,l⟩,u,hn,hs,hu=>by
    refine Pd.got_know (t:=34) ?_
    have hu:Pd.Row F u l:=hu
    have hok:=hu.ok
    have e2:Pd.size (.mk k f v l)=1+Pd.sizeL l:=by rw [Pd.size]
    have hll:=Pd.length_le l
    have ih:∀ G,∀ x∈l,∀ w,Pd.Row G w x.l→NCall Tryd.prog 14 [.agg (Pd.cs x w)] [hpB G] fun r m=>Pd.Lays G x r m:=fun G x hx w hw=>theirs26_c n G x w (by have:=Pd.size_lt (k:=k) (f:=f) (v:=v) hx;omega) (by have:=Pd.size_lt (k:=k) (f:=f) (v:=v) hx;omega) hw
    refine ncall_of Tryd.func14 rfl (by decide) ?_
    rw [pd_cs]
    (repeat' (first|(with_reducible first|(refine hK _ _ ?_;clear hK K)|(refine hK _ ?_;clear hK K))|((with_reducible refine z25 ?_);intro K hK;(conv=>whnf))|(with_reducible refine z0 ?_)|((first|(with_reducible refine NN.a5 ?_)|((with_reducible refine NH.mk ?s ?_);case s=>(and_intros<;>first|with_reducible rfl|((with_reducible refine gOnes ?_);rfl)|((with_reducible refine gLen ?_);rfl))))<;>(conv=>whnf))|(with_reducible first|refine z3 ?_|refine z4 ?_|refine z5 ?_|refine z1 ?_|refine z2 ?_)|((with_reducible refine gF ?_);(refine z33 rfl ?_;intro K hK;(conv=>whnf)))|((intro _;skip)<;>(conv=>whnf))))
    refine st_auto (α:=Heap × Value × List (Pd.T × Value)) (fun (G,w,ps)=>F.le G∧ps.map (·.1)=l.take ps.length∧ps.length≤l.length∧∀ p∈ps,Pd.Row G p.2 p.1.l) (fun (G,w,ps)=>[.keep,.keep,.keep,.keep,.set (.int .i64 ps.length),.keep,.keep,.keep,.keep,.keep,.keep,.keep,.drop,.drop,.drop,.drop,.drop,.drop,.drop,.drop,.drop,.drop,.drop,.drop,.drop,.drop,.drop,.drop,.drop,.drop,.keep])
      (fun (G,w,ps)=>[.set (hpB G),.keep,.keep,.cells [.int .i64 k,.int .i64 f,.int .i64 v,.sl 4 w ps.length],.set ⟨addrOf w,Pd.psC ps,.row w 34 4 ps.length⟩]) (fun (G,w,ps)=>l.length - ps.length) (F,.slice none 0 0,[]) ⟨F.le_refl,rfl,Nat.zero_le _,fun p hp=>by simp at hp⟩ ?_ ((MemFits.nilRow _ 34 4).trans (MemFits.congr rfl)) ?_
    · repeat (first|exact FitsSl.nil|refine FitsSl.any ?_|refine FitsSl.cons (Fit1.int (by first | rfl | omega)) ?_|refine FitsSl.cons (Fit1.same (by intro h;cases h) (by with_reducible rfl)) ?_)
    (intro ⟨G,w,ps⟩ ⟨hle,hmap,hlen,hall⟩;intro K hK;(conv=>whnf);refine hK _ _ ?_;clear hK K)
    dsimp only
    generalize hk:ps.length=i at *
    by_cases hlt:i<l.length
    · have hx:l[i]?=some l[i]:=List.getElem?_eq_getElem hlt
      obtain ⟨A,cap,hA,c0,c1,c2,c3⟩:=(Pd.Row.mono hle hu).get hx
      have hmem:=List.mem_of_getElem? hx
      have c:=ih G _ hmem _ hA
      have hnx:l.take (i+1)=l.take i++[l[i]]:=by rw [List.take_add_one,hx];rfl
      clear ih
      generalize l[i]=x at *
      have hpl:=Pd.psC_len ps
      have hpn:=Pd.psC_next ps
      generalize hpc:Pd.psC ps=pc at *
      obtain ⟨xk,xf,xv,xl⟩:=x
      simp only [Pd.Lays,Pd.cs,Pd.T.k,Pd.T.f,Pd.T.v,Pd.T.l] at c c0 c1 c2 c3 hA
      (repeat' (first|(with_reducible first|(refine hK _ _ ?_;clear hK K)|(refine hA ?_;clear hA hB A B)|(refine hK _ ?_;clear hK K))|((with_reducible refine z25 ?_);intro K hK;(conv=>whnf))|(with_reducible refine z0 ?_)|((first|((with_reducible refine NV.i64 ?s ?_);case s=>omega)|((with_reducible refine NIf.decY ?s ?_);case s=>omega)|(with_reducible first|refine NN.cast ?_|refine NN.a5 ?_|refine NN.keep ?_)|((with_reducible refine NH.mk ?s ?_);case s=>(and_intros<;>first|with_reducible rfl|((with_reducible refine gOnes ?_);rfl)|((with_reducible refine gLen ?_);rfl)|omega))|((with_reducible refine NCall.isF 14 ?_);refine NCall.subw [0] _ _ (c) rfl (by decide) rfl ?_;rintro _ _ ⟨G',w',hle2,hrow,rfl,rfl⟩;refine ⟨Nat.le_of_ble_eq_true rfl,_,rfl,?_⟩)|(with_reducible refine NLd.of (by with_reducible assumption) ?_))<;>(conv=>whnf))|((with_reducible refine gNO ?_);(first|(refine z36 rfl (by kernel_rfl) ?_;intro K hK;(conv=>whnf))|refine z38 rfl (by kernel_rfl) ?_|refine z39 rfl rfl (by kernel_rfl) (by intro h;cases h) ?_))|((with_reducible refine gNE ?_);(first|(refine z40 ?_ ?_;(intro K hK;(conv=>whnf)))|exact z42))|((with_reducible refine gX ?_);(first|refine z35 (by kernel_rfl) _ rfl ?_|(with_reducible first|refine z3 ?_|refine z4 ?_|refine z5 ?_|refine z6 ?_)|((with_reducible refine z29 ?_);intro A B hA hB;(conv=>whnf))))|(with_reducible first|refine z1 ?_|refine z2 ?_|refine z9 ?_)|((intro _;skip)<;>(conv=>whnf))))
      all_goals
        rename_i v9
        refine st_round (G',v9,ps++[(⟨xk,xf,xv,xl⟩,w')]) ⟨hle.trans hle2,by rw [List.map_append,hmap,List.length_append,hk];exact hnx.symm,by rw [List.length_append,hk];exact hlt,fun x hx=>?_⟩ (by rw [List.length_append,hk];show l.length - (i+1)<l.length - i;omega) ?_ (MemFits.pre 5 ?_)
        · rcases List.mem_append.1 hx with hx | hx
          · exact Pd.Row.mono hle2 (hall x hx)
          · rw [List.mem_singleton.1 hx];exact hrow
        · simp only [List.length_append,hk]
          repeat (first|exact FitsSl.nil|refine FitsSl.any ?_|refine FitsSl.cons (Fit1.int (by first | rfl | omega)) ?_|refine FitsSl.cons (Fit1.same (by intro h;cases h) (by with_reducible rfl)) ?_)
        · simp only [autoM,List.take,List.length_append,hk,hpn]
          rw [show i+[((⟨xk,xf,xv,xl⟩:Pd.T),w')].length=i+1 from rfl]
          rfl
    · have hkl:i=l.length:=by omega
      subst hkl
      (repeat' (first|(with_reducible first|(refine hK _ _ ?_;clear hK K)|(refine hB ?_;clear hA hB A B)|(refine hK _ ?_;clear hK K))|((with_reducible refine z25 ?_);intro K hK;(conv=>whnf))|(with_reducible refine z0 ?_)|((first|((with_reducible refine NIf.decN ?s ?_);case s=>omega)|(with_reducible refine NN.a5 ?_)|((with_reducible refine NH.mk ?s ?_);case s=>(and_intros<;>first|with_reducible rfl|((with_reducible refine gOnes ?_);rfl)|((with_reducible refine gLen ?_);rfl)|omega)))<;>(conv=>whnf))|(with_reducible first|refine z3 ?_|refine z4 ?_|refine z7 ?_|refine z8 ?_)|((with_reducible refine z29 ?_);intro A B hA hB;(conv=>whnf))|(with_reducible first|refine z1 ?_|refine z2 ?_|refine z10 ?_|refine z11 ?_|refine z19 ?_)|((with_reducible refine gR ?_);(refine z31 rfl ?_;intro K hK;(conv=>whnf)))))
      all_goals exact ⟨G,w,ps,hle,by rw [hmap,List.take_length];rfl,hall,rfl,by rw [hk];exact MemFits.pick [0,4] (by decide) rfl⟩
end Go.Proofs.YtaojbkphcnailaaDoor
namespace Go.Sx
theorem NCallX.know {P:Program} {f:FuncId} {args:List AV} {m:List Blk} {K K':AV→List Blk→Prop} {Kp Kp':List PanicEntry→List Blk→Prop} (h:NCallX P f args m K Kp)
    (hk:∀ r m',K r m'→(∃ w,MemOk m' w)→∃ r' m'',r'.den=r.den∧MemFits m' m''∧K' r' m'') (hp:∀ ch m',Kp ch m'→∃ m'',MemFits m' m''∧Kp' ch m''):NCallX P f args m K' Kp':=by
  rw [NCallX_iff] at h ⊢
  refine ⟨h.1,fun w hm=>(h.2 w hm).mono fun e w' hq=>?_⟩
  rcases hq with ⟨r,m',h1,rfl,h3,h4,h5⟩ | ⟨r,m',h1,rfl,h3,h4,h5⟩
  · obtain ⟨r',m'',h6,h7,h8⟩:=hk r m' h1 ⟨w',h3⟩
    exact .inl ⟨r',m'',h8,by rw [h6],(h7 w' h3).1,h4,fun b hb=>h5.1 b ((h7 w' h3).2.1 b hb),fun b hb=>h5.2 b ((h7 w' h3).2.2 b hb)⟩
  · obtain ⟨m'',h7,h8⟩:=hp r m' h1
    exact .inr ⟨r,m'',h8,rfl,(h7 w' h3).1,h4,fun b hb=>h5.1 b ((h7 w' h3).2.1 b hb),fun b hb=>h5.2 b ((h7 w' h3).2.2 b hb)⟩
end Go.Sx
namespace Go.Proofs.YtaojbkphcnailaaDoor
open Go.Sx
set_option maxRecDepth 20000
set_option linter.unusedSimpArgs false
set_option linter.unusedVariables false
set_option maxHeartbeats 4000000
set_option linter.unusedVariables false
namespace Ps
structure Good (l:List Lx.T):Prop where
  few:l.length≤1000
  end_:∀ i x,l[i]?=some x→x.k≠4→i+1<l.length
theorem tk_b {l:List Lx.T} {i:Nat} {x:Lx.T} (hx:l[i]?=some x):tk (l.map Lx.b) i=Lx.b x:=by
  unfold tk
  rw [List.getElem?_map,hx]
  rfl
theorem is_b {l:List Lx.T} {i:Nat} {x:Lx.T} (hx:l[i]?=some x) (s:List UInt8):is (l.map Lx.b) i s=((decide (x.k=1)||decide (x.k=3))&&decide (x.s=s)):=by
  unfold is
  rw [tk_b hx]
  rfl
theorem Good.next {l:List Lx.T} (h:Good l) {i:Nat} {x:Lx.T} (hx:l[i]?=some x) {s:List UInt8} (hs:is (l.map Lx.b) i s=true):i+1<l.length:=by
  rw [is_b hx] at hs
  refine h.end_ i x hx fun h4=>?_
  rw [h4] at hs
  simp at hs
def Bad {α:Type} (F:Heap) (v:Value) (l:List Lx.T) (b:Nat) (r:R α) (ch:List PanicEntry) (m:List Blk):Prop :=
  ∃ j x G k,r = .bad j∧l[j]?=some x∧ch=wrong x.at_∧F.le G∧m=[hpB G,pB b v l.length k]
def Got26 (F:Heap) (v:Value) (l:List Lx.T) (b:Nat) (i:Nat) (q:R Pd.T) (r:AV) (m:List Blk):Prop :=
  ∃ p j G u,q = .ok p j∧i≤j∧j<l.length∧F.le G∧Pd.Row G u p.l∧r = .agg (Pd.cs p u)∧m=[hpB G,pB b v l.length j]
def P26 (v:Value) (l:List Lx.T) (f:FuncId) (q:R Pd.T) (i:Nat):Prop :=
  ∀ (F:Heap) (b:Nat),Toks F v l→NCallX Tryd.prog f [.ptr 1 ⟨b,0,none⟩ 0] [hpB F,pB b v l.length i] (fun r m=>Got26 F v l b i q r m) (fun ch m=>Bad F v l b q ch m)
def Got26L (F:Heap) (v:Value) (l:List Lx.T) (b:Nat) (i:Nat) (q:R (List Pd.T)) (r:AV) (m:List Blk):Prop :=
  ∃ xs j G u,q = .ok xs j∧i≤j∧j<l.length∧F.le G∧Pd.Row G u xs∧r = .hs u xs.length∧m=[hpB G,pB b v l.length j]
end Ps
theorem chain26_c (v:Value) (l:List Lx.T) (hl:Ps.Good l) (s:List UInt8) (g:FuncId) (sp:Nat→Ps.R Pd.T) (i0:Nat) (hi0:i0<l.length) (hg:∀ i,i0≤i→i<l.length→Ps.P26 v l g (sp i) i) (F:Heap) (b:Nat) (hv:Ps.Toks F v l) :
    NCallX Tryd.prog 68 [.ptr 1 ⟨b,0,none⟩ 0,.str s,.fn g [.ptr 1 ⟨b,0,none⟩ 0] []] [hpB F,Ps.pB b v l.length i0] (fun r m=>Ps.Got26L F v l b i0 (Ps.chain (l.map Lx.b) s sp i0) r m) (fun ch m=>Ps.Bad F v l b (Ps.chain (l.map Lx.b) s sp i0) ch m):=by
  refine NCallX.know (K:=fun r m=>∃ (ps:List (Pd.T × Value)) (j:Nat) (G:Heap) (w:Value),Ps.chain (l.map Lx.b) s sp i0 = .ok (ps.map (·.1)) j∧i0≤j∧j<l.length∧F.le G∧(∀ p∈ps,Pd.Row G p.2 p.1.l)∧r.den=slOf w∧MemFits m [hpB G,⟨addrOf w,Pd.psC ps,.row w 25 4 ps.length⟩,Ps.pB b v l.length j]) (Kp:=fun ch m=>∃ j x G k,Ps.chain (l.map Lx.b) s sp i0 = .bad j∧l[j]?=some x∧ch=Ps.wrong x.at_∧F.le G∧MemFits m [hpB G,Ps.pB b v l.length k]) ?_ (fun r m' hq ⟨w0,hw0⟩=>?_) (fun ch m' hq=>?_)
  rotate_left
  · obtain ⟨ps,j,G,w,h1,h2,h3,h4,h5,h6,h7⟩:=hq
    have hok:=((h7 w0 hw0).1.row (List.mem_cons_of_mem _ (List.mem_cons_self ..))).1
    have hrow:=rowF_new (F:=G) (sz:=4) (enc:=Pd.psV) hok (Pd.psC_den ps) (fun x _=>rfl)
    refine ⟨.hs w ps.length,_,h6.symm,h7.trans (MemFits.freeze (m:=[Ps.pB b v l.length j])),ps.map (·.1),j,_,w,h1,h2,h3,h4.trans addF.old,?_,by rw [List.length_map],rfl⟩
    exact Pd.row_of hrow fun p hp=>Pd.Row.mono addF.old (h5 p hp)
  · obtain ⟨j,x,G,k,h1,h2,h3,h4,h5⟩:=hq
    exact ⟨_,h5,j,x,G,k,h1,h2,h3,h4,rfl⟩
  have c0:=hg i0 (Nat.le_refl _) hi0 F b hv
  have hn:=hl.few
  have hspec:Ps.chain (l.map Lx.b) s sp i0=match sp i0 with
    | .ok x j=>Ps.more (l.map Lx.b) s sp ((l.map Lx.b).length+1 - j) [x] j
    | .bad j=>.bad j:=by unfold Ps.chain;cases sp i0<;>rfl
  have hlen:(l.map Lx.b).length=l.length:=List.length_map ..
  rw [hlen] at hspec
  generalize Ps.chain (l.map Lx.b) s sp i0=res at *
  generalize hq0:sp i0=q0 at *
  refine ncallx_of Tryd.func68 rfl (by decide) ?_
  unfold Ps.pB at c0 ⊢
  (repeat' (first|(with_reducible first|(refine hK _ _ ?_;clear hP hK Kp K)|(refine hP _ _ ?_;clear hP hK Kp K))|(with_reducible (refine hK _ ?_;clear hK K))|((with_reducible refine gOX ?_);(first|((with_reducible refine st_opX ?_);intro K Kp hK hP;(conv=>whnf))|(with_reducible refine st_nilX ?_)))|((first|((with_reducible refine gH ?_);((with_reducible refine NH.mk ?s ?_);case s=>(and_intros<;>first|((with_reducible refine gLen ?_);rfl)|omega)))|((with_reducible refine gCX ?_);((with_reducible refine NCallX.isF g ?_);refine NCallX.subw [0,1] _ _ (c0) rfl (by decide) rfl ?_ ?_;((rintro _ _ ⟨p,j,G,u,h1,h2,h3,h4,h5,rfl,rfl⟩)<;>refine ⟨Nat.le_of_ble_eq_true rfl,_,rfl,?_⟩);rotate_right;((rintro _ _ ⟨j,x,G,k,h1,h2,rfl,h4,rfl⟩)<;>refine ⟨Nat.le_of_ble_eq_true rfl,?_⟩))))<;>(conv=>whnf))|((with_reducible refine gXX ?_);((with_reducible first|refine st_seqX ?_|refine st_regionX ?_|refine st_blockX ?_)))|(with_reducible first|refine st_thenX ?_|refine st_thenX_panic ?_)|((with_reducible refine gRX ?_);((with_reducible refine st_retX_panic ?_)))|((with_reducible refine gFX ?_);((refine st_funcX rfl ?_);intro K hK;(conv=>whnf)))|((intro _;skip)<;>(conv=>whnf))))
  · refine ⟨j,x,G,k,?_,h2,rfl,h4,MemFits.pre 2 rfl⟩
    rw [hspec,h1]
  rename_i b2
  rw [h1] at hspec
  dsimp only at hspec
  refine st_autoX (α:=Heap × Value × List (Pd.T × Value) × Nat × Nat) (fun (G,w,ps,j,n)=>res=Ps.more (l.map Lx.b) s sp n (ps.map (·.1)) j∧i0≤j∧j<l.length∧l.length - j<n∧F.le G∧ps.length≤j+1∧∀ p∈ps,Pd.Row G p.2 p.1.l)
    (fun (G,w,ps,j,n)=>[.keep,.keep,.keep,.keep,.keep,.keep,.keep,.set (.sl 2 w ps.length),.keep,.keep,.keep,.drop,.drop,.drop,.drop,.drop,.drop,.drop,.drop,.keep]) (fun (G,w,ps,j,n)=>[.set (hpB G),.set (Ps.pB b v l.length j),.set ⟨addrOf w,Pd.psC ps,.row w 25 4 ps.length⟩]) (fun (G,w,ps,j,n)=>l.length - j)
    (G,.slice (some ⟨b2,0,none⟩) 1 1,[(p,u)],j,l.length+1 - j) ⟨hspec,h2,h3,by omega,h4,by simp,fun x hx=>by rw [List.mem_singleton.1 hx];exact h5⟩ ?_ ?_ ?_
  · repeat (first|exact FitsSl.nil|refine FitsSl.any ?_|refine FitsSl.cons (Fit1.str rfl) ?_|refine FitsSl.cons (Fit1.same (by intro h;cases h) (by with_reducible rfl)) ?_|refine FitsSl.cons (Fit1.sl rfl) ?_)
  · exact MemFits.eq rfl
  (intro ⟨G1,w,ps,j1,n⟩ ⟨hres,hij,hjl,hnl,hle,hpl,hall⟩;intro K hK;(conv=>whnf);refine hK _ _ ?_;clear hK K)
  dsimp only at hres hij hjl hnl hle hpl hall ⊢
  obtain ⟨n,rfl⟩:∃ k,n=k+1:=⟨n - 1,by omega⟩
  have hx1:l[j1]?=some l[j1]:=List.getElem?_eq_getElem hjl
  have ci:=is29_c G1 v l (Ps.Toks.mono hle hv) hn b hx1 s
  have hisb:=Ps.is_b hx1 s
  have hnext:=hl.next hx1 (s:=s)
  rw [← hisb] at ci
  unfold Ps.more at hres
  have hpc:=Pd.psC_len ps
  generalize Ps.is (l.map Lx.b) j1 s=qi at *
  cases qi with
  | false =>
    rw [if_neg (by decide)] at ci hres
    (repeat' (first|(with_reducible first|(refine hK _ _ ?_;clear hP hK Kp K)|(refine hB ?_;clear hA hB A B)|(refine hK _ ?_;clear hK K))|((with_reducible refine st_opX ?_);intro K Kp hK hP;(conv=>whnf))|(with_reducible refine st_nilX ?_)|((first|((with_reducible refine NIf.no ?s ?_);case s=>rfl)|((with_reducible refine gCX ?_);(refine NCallX.of ?_;((with_reducible refine NCall.isF 84 ?_);refine NCall.subE [0,1] (ci) rfl (by decide) rfl rfl ?_))))<;>(conv=>whnf))|(with_reducible first|refine st_seqX ?_|refine st_regionX ?_|refine st_exitX ?_|refine st_retX ?_)|((with_reducible refine st_condX ?_);intro A B hA hB;(conv=>whnf))|(with_reducible first|refine z10 ?_|refine z19 ?_|refine st_thenX ?_|refine st_thenX_exit ?_)|((with_reducible refine gRX ?_);(refine st_retX_ret rfl ?_;intro K hK;(conv=>whnf)))))
    all_goals exact ⟨ps,j1,G1,w,hres,hij,hjl,hle,hall,rfl,MemFits.pick [0,2,1] (by decide) rfl⟩
  | true =>
    rw [if_pos rfl] at ci hres
    have c1:=hg (j1+1) (by omega) (hnext rfl) G1 b (Ps.Toks.mono hle hv)
    generalize hq1:sp (j1+1)=q1 at *
    unfold Ps.pB at ci c1
    (repeat' (first|(with_reducible first|(refine hK _ _ ?_;clear hP hK Kp K)|(refine hP _ _ ?_;clear hP hK Kp K))|(with_reducible (refine hA ?_;clear hA hB A B))|((with_reducible refine gOX ?_);(first|((with_reducible refine st_opX ?_);intro K Kp hK hP;(conv=>whnf))|(with_reducible refine st_nilX ?_)))|((first|((with_reducible refine gI ?_);(((with_reducible refine NIf.yes ?s ?_);case s=>rfl)))|((with_reducible refine gH ?_);((with_reducible refine NH.mk ?s ?_);case s=>(and_intros<;>first|with_reducible rfl|((with_reducible refine gOnes ?_);rfl)|((with_reducible refine gLen ?_);rfl)|omega)))|((with_reducible refine gCX ?_);(first|((with_reducible refine NCallX.isF g ?_);refine NCallX.subw [0,1] _ _ (c1) rfl (by decide) rfl ?_ ?_;((rintro _ _ ⟨p2,j2,G2,u2,k1,k2,k3,k4,k5,rfl,rfl⟩)<;>refine ⟨Nat.le_of_ble_eq_true rfl,_,rfl,?_⟩);rotate_right;((rintro _ _ ⟨j2,x2,G2,k',k1,k2,rfl,k4,rfl⟩)<;>refine ⟨Nat.le_of_ble_eq_true rfl,?_⟩))|(refine NCallX.of ?_;(((with_reducible refine NCall.isF 84 ?_);refine NCall.subE [0,1] (ci) rfl (by decide) rfl rfl ?_))))))<;>(conv=>whnf))|((with_reducible refine gXX ?_);(first|(with_reducible first|refine st_seqX ?_|refine st_regionX ?_|refine st_blockX ?_|refine st_skipX ?_)|((with_reducible refine st_condX ?_);intro A B hA hB;(conv=>whnf))))|(with_reducible first|refine z9 ?_|refine st_thenX ?_|refine st_thenX_panic ?_|refine st_block_panic ?_|refine st_round_panic ?_)|((with_reducible refine gRX ?_);((with_reducible refine st_retX_panic ?_)))|((intro _;skip)<;>(conv=>whnf))))
    · refine ⟨j2,x2,G2,k',?_,k2,rfl,hle.trans k4,MemFits.pre 2 rfl⟩
      rw [hres,k1]
    · rename_i b3 w2
      have hpn:=Pd.psC_next ps (p2,u2)
      have hpl2:(ps++[(p2,u2)]).length=ps.length+1:=by rw [List.length_append];rfl
      rw [k1] at hres
      dsimp only at hres
      refine st_round (G2,w2,ps++[(p2,u2)],j2,n) ⟨by rw [List.map_append];exact hres,Nat.le_trans hij (Nat.le_trans (Nat.le_succ _) k2),k3,by dsimp only;omega,hle.trans k4,by dsimp only;rw [hpl2];omega,fun x hx=>?_⟩ (by show l.length - j2<l.length - j1;omega) ?_ ?_
      · rcases List.mem_append.1 hx with hx | hx
        · exact Pd.Row.mono k4 (hall x hx)
        · rw [List.mem_singleton.1 hx];exact k5
      · dsimp only
        rw [hpl2]
        repeat (first|exact FitsSl.nil|refine FitsSl.any ?_|refine FitsSl.cons (Fit1.str rfl) ?_|refine FitsSl.cons (Fit1.same (by intro h;cases h) (by with_reducible rfl)) ?_)
      · dsimp only
        rw [hpn,hpl2]
        exact MemFits.pre 3 rfl
theorem Ps.wrap_not {α:Type} {f:List α→α} {xs:List α} {j:Nat} (h:¬xs.length=1):Ps.wrap f (.ok xs j) = .ok (f xs) j:=by
  match xs,h with
  | [],_=>rfl
  | _::_::_,_=>rfl
theorem group26_c (v:Value) (l:List Lx.T) (hl:Ps.Good l) (sp:Nat→Ps.R Pd.T) (i0:Nat) (hi0:i0<l.length) (hg:∀ i,i0≤i→i<l.length→Ps.P26 v l 88 (sp i) i):Ps.P26 v l 69 (Ps.group (l.map Lx.b) sp i0) i0:=by
  intro F b hv
  refine NCallX.fits (K:=fun r m=>∃ p j G u,Ps.group (l.map Lx.b) sp i0 = .ok p j∧i0≤j∧j<l.length∧F.le G∧Pd.Row G u p.l∧r = .agg (Pd.cs p u)∧MemFits m [hpB G,Ps.pB b v l.length j]) (Kp:=fun ch m=>∃ j x G k,Ps.group (l.map Lx.b) sp i0 = .bad j∧l[j]?=some x∧ch=Ps.wrong x.at_∧F.le G∧MemFits m [hpB G,Ps.pB b v l.length k]) ?_ (fun r m' ⟨p,j,G,u,h1,h2,h3,h4,h5,h6,h7⟩=>⟨r,_,rfl,h7,p,j,G,u,h1,h2,h3,h4,h5,h6,rfl⟩) (fun ch m' ⟨j,x,G,k,h1,h2,h3,h4,h5⟩=>⟨_,h5,j,x,G,k,h1,h2,h3,h4,rfl⟩)
  have cc:=chain26_c v l hl Ps.wAnd 88 sp i0 hi0 hg F b hv
  have hn:=hl.few
  unfold Ps.group
  generalize Ps.chain (l.map Lx.b) Ps.wAnd sp i0=q at *
  refine ncallx_of Tryd.func69 rfl (by decide) ?_
  unfold Ps.pB at cc ⊢
  unfold Ps.wAnd at cc
  (repeat' (first|(with_reducible first|(refine hK _ _ ?_;clear hP hK Kp K)|(refine hP _ _ ?_;clear hP hK Kp K))|(with_reducible (refine hK _ ?_;clear hK K))|((with_reducible refine gOX ?_);(first|((with_reducible refine st_opX ?_);intro K Kp hK hP;(conv=>whnf))|(with_reducible refine st_nilX ?_)))|((((with_reducible refine gCX ?_);((with_reducible refine NCallX.isF 68 ?_);refine NCallX.subw [0,1] _ _ (cc) rfl (by decide) rfl ?_ ?_;((rintro _ _ ⟨xs,j,G,u,h1,h2,h3,h4,h5,rfl,rfl⟩)<;>refine ⟨Nat.le_of_ble_eq_true rfl,_,rfl,?_⟩);rotate_right;((rintro _ _ ⟨j,x,G,k,h1,h2,rfl,h4,rfl⟩)<;>refine ⟨Nat.le_of_ble_eq_true rfl,?_⟩))))<;>(conv=>whnf))|((with_reducible refine gXX ?_);((with_reducible first|refine st_seqX ?_|refine st_regionX ?_)))|(with_reducible first|refine st_thenX ?_|refine st_thenX_panic ?_)|((with_reducible refine gRX ?_);((with_reducible refine st_retX_panic ?_)))|((with_reducible refine gFX ?_);((refine st_funcX rfl ?_);intro K hK;(conv=>whnf)))|((intro _;skip)<;>(conv=>whnf))))
  · refine ⟨j,x,G,k,?_,h2,rfl,h4,MemFits.pre 2 rfl⟩
    rw [h1]
    rfl
  have huk:=h5.ok
  subst h1
  by_cases hone:xs.length=1
  · obtain ⟨y,rfl⟩:=List.length_eq_one_iff.1 hone
    obtain ⟨A,cap,hr,d0,d1,d2,d3⟩:=h5.get (i:=0) (x:=y) rfl
    rw [Nat.zero_mul] at d0 d1 d2 d3
    (repeat' (first|(with_reducible first|(refine hK _ _ ?_;clear hP hK Kp K)|(refine hA ?_;clear hA hB A B)|(refine hK _ ?_;clear hK K))|((with_reducible refine st_opX ?_);intro K Kp hK hP;(conv=>whnf))|(with_reducible refine st_nilX ?_)|((first|((with_reducible refine NIf.yes ?s ?_);case s=>(simp ;done))|(with_reducible first|refine NN.lit ?_|refine NN.a6 ?_)|((with_reducible refine NH.mk ?s ?_);case s=>(and_intros<;>first|with_reducible rfl|((with_reducible refine gOnes ?_);rfl)|((with_reducible refine gLen ?_);rfl)|omega))|(with_reducible refine NLd.of (by with_reducible assumption) ?_))<;>(conv=>whnf))|(with_reducible first|refine st_seqX ?_|refine st_regionX ?_|refine st_retX ?_)|((with_reducible refine st_condX ?_);intro A B hA hB;(conv=>whnf))|(with_reducible first|refine st_thenX ?_|refine st_thenX_ret ?_)|((with_reducible refine gRX ?_);(refine st_retX_ret rfl ?_;intro K hK;(conv=>whnf)))))
    all_goals exact ⟨y,j,G,_,rfl,h2,h3,h4,hr,rfl,MemFits.pre 2 rfl⟩
  · have hw:=Ps.wrap_not (f:=fun xs=>Pd.T.mk 5 0 0 xs) (j:=j) hone
    have hone2:¬(xs.length:Int)=1:=by omega
    (repeat' (first|(with_reducible first|(refine hK _ _ ?_;clear hP hK Kp K)|(refine hB ?_;clear hA hB A B)|(refine hK _ ?_;clear hK K))|((with_reducible refine st_opX ?_);intro K Kp hK hP;(conv=>whnf))|(with_reducible refine st_nilX ?_)|((first|((with_reducible refine NIf.no ?s ?_);case s=>(simp [hone2];done))|((with_reducible refine NH.mk ?s ?_);case s=>(and_intros<;>first|with_reducible rfl|((with_reducible refine gOnes ?_);rfl)|((with_reducible refine gLen ?_);rfl)|omega)))<;>(conv=>whnf))|(with_reducible first|refine st_seqX ?_|refine st_regionX ?_|refine st_skipX ?_|refine st_retX ?_)|((with_reducible refine st_condX ?_);intro A B hA hB;(conv=>whnf))|(with_reducible refine st_thenX ?_)|((with_reducible refine gRX ?_);(refine st_retX_ret rfl ?_;intro K hK;(conv=>whnf)))))
    all_goals exact ⟨.mk 5 0 0 xs,j,G,u,hw,h2,h3,h4,h5,rfl,MemFits.pre 2 rfl⟩
theorem cond26_c (v:Value) (l:List Lx.T) (hl:Ps.Good l) (sp:Nat→Ps.R Pd.T) (i0:Nat) (hi0:i0<l.length) (hg:∀ i,i0≤i→i<l.length→Ps.P26 v l 69 (Ps.group (l.map Lx.b) sp i) i):Ps.P26 v l 32 (Ps.cond (l.map Lx.b) sp i0) i0:=by
  intro F b hv
  refine NCallX.fits (K:=fun r m=>∃ p j G u,Ps.cond (l.map Lx.b) sp i0 = .ok p j∧i0≤j∧j<l.length∧F.le G∧Pd.Row G u p.l∧r = .agg (Pd.cs p u)∧MemFits m [hpB G,Ps.pB b v l.length j]) (Kp:=fun ch m=>∃ j x G k,Ps.cond (l.map Lx.b) sp i0 = .bad j∧l[j]?=some x∧ch=Ps.wrong x.at_∧F.le G∧MemFits m [hpB G,Ps.pB b v l.length k]) ?_ (fun r m' ⟨p,j,G,u,h1,h2,h3,h4,h5,h6,h7⟩=>⟨r,_,rfl,h7,p,j,G,u,h1,h2,h3,h4,h5,h6,rfl⟩) (fun ch m' ⟨j,x,G,k,h1,h2,h3,h4,h5⟩=>⟨_,h5,j,x,G,k,h1,h2,h3,h4,rfl⟩)
  have cc:=chain26_c v l hl Ps.wOr 69 (Ps.group (l.map Lx.b) sp) i0 hi0 hg F b hv
  have hn:=hl.few
  unfold Ps.cond
  generalize Ps.chain (l.map Lx.b) Ps.wOr (Ps.group (l.map Lx.b) sp) i0=q at *
  refine ncallx_of Tryd.func32 rfl (by decide) ?_
  unfold Ps.pB at cc ⊢
  unfold Ps.wOr at cc
  (repeat' (first|(with_reducible first|(refine hK _ _ ?_;clear hP hK Kp K)|(refine hP _ _ ?_;clear hP hK Kp K))|(with_reducible (refine hK _ ?_;clear hK K))|((with_reducible refine gOX ?_);(first|((with_reducible refine st_opX ?_);intro K Kp hK hP;(conv=>whnf))|(with_reducible refine st_nilX ?_)))|((((with_reducible refine gCX ?_);((with_reducible refine NCallX.isF 68 ?_);refine NCallX.subw [0,1] _ _ (cc) rfl (by decide) rfl ?_ ?_;((rintro _ _ ⟨xs,j,G,u,h1,h2,h3,h4,h5,rfl,rfl⟩)<;>refine ⟨Nat.le_of_ble_eq_true rfl,_,rfl,?_⟩);rotate_right;((rintro _ _ ⟨j,x,G,k,h1,h2,rfl,h4,rfl⟩)<;>refine ⟨Nat.le_of_ble_eq_true rfl,?_⟩))))<;>(conv=>whnf))|((with_reducible refine gXX ?_);((with_reducible first|refine st_seqX ?_|refine st_regionX ?_)))|(with_reducible first|refine st_thenX ?_|refine st_thenX_panic ?_)|((with_reducible refine gRX ?_);((with_reducible refine st_retX_panic ?_)))|((with_reducible refine gFX ?_);((refine st_funcX rfl ?_);intro K hK;(conv=>whnf)))|((intro _;skip)<;>(conv=>whnf))))
  · refine ⟨j,x,G,k,?_,h2,rfl,h4,MemFits.pre 2 rfl⟩
    rw [h1]
    rfl
  have huk:=h5.ok
  subst h1
  by_cases hone:xs.length=1
  · obtain ⟨y,rfl⟩:=List.length_eq_one_iff.1 hone
    obtain ⟨A,cap,hr,d0,d1,d2,d3⟩:=h5.get (i:=0) (x:=y) rfl
    rw [Nat.zero_mul] at d0 d1 d2 d3
    (repeat' (first|(with_reducible first|(refine hK _ _ ?_;clear hP hK Kp K)|(refine hA ?_;clear hA hB A B)|(refine hK _ ?_;clear hK K))|((with_reducible refine st_opX ?_);intro K Kp hK hP;(conv=>whnf))|(with_reducible refine st_nilX ?_)|((first|((with_reducible refine NIf.yes ?s ?_);case s=>(simp ;done))|(with_reducible first|refine NN.lit ?_|refine NN.a6 ?_)|((with_reducible refine NH.mk ?s ?_);case s=>(and_intros<;>first|with_reducible rfl|((with_reducible refine gOnes ?_);rfl)|((with_reducible refine gLen ?_);rfl)|omega))|(with_reducible refine NLd.of (by with_reducible assumption) ?_))<;>(conv=>whnf))|(with_reducible first|refine st_seqX ?_|refine st_regionX ?_|refine st_retX ?_)|((with_reducible refine st_condX ?_);intro A B hA hB;(conv=>whnf))|(with_reducible first|refine st_thenX ?_|refine st_thenX_ret ?_)|((with_reducible refine gRX ?_);(refine st_retX_ret rfl ?_;intro K hK;(conv=>whnf)))))
    all_goals exact ⟨y,j,G,_,rfl,h2,h3,h4,hr,rfl,MemFits.pre 2 rfl⟩
  · have hw:=Ps.wrap_not (f:=fun xs=>Pd.T.mk 6 0 0 xs) (j:=j) hone
    have hone2:¬(xs.length:Int)=1:=by omega
    (repeat' (first|(with_reducible first|(refine hK _ _ ?_;clear hP hK Kp K)|(refine hB ?_;clear hA hB A B)|(refine hK _ ?_;clear hK K))|((with_reducible refine st_opX ?_);intro K Kp hK hP;(conv=>whnf))|(with_reducible refine st_nilX ?_)|((first|((with_reducible refine NIf.no ?s ?_);case s=>(simp [hone2];done))|((with_reducible refine NH.mk ?s ?_);case s=>(and_intros<;>first|with_reducible rfl|((with_reducible refine gOnes ?_);rfl)|((with_reducible refine gLen ?_);rfl)|omega)))<;>(conv=>whnf))|(with_reducible first|refine st_seqX ?_|refine st_regionX ?_|refine st_skipX ?_|refine st_retX ?_)|((with_reducible refine st_condX ?_);intro A B hA hB;(conv=>whnf))|(with_reducible refine st_thenX ?_)|((with_reducible refine gRX ?_);(refine st_retX_ret rfl ?_;intro K hK;(conv=>whnf)))))
    all_goals exact ⟨.mk 6 0 0 xs,j,G,u,hw,h2,h3,h4,h5,rfl,MemFits.pre 2 rfl⟩
end Go.Proofs.YtaojbkphcnailaaDoor
