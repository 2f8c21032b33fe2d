import Derived.Test.YtaojbkphcnailaaDoorJ16
import Derived.Test.YtaojbkphcnailaaDoorJ13
namespace Go.Proofs.YtaojbkphcnailaaDoor
open Go.Sx
set_option maxRecDepth 20000
set_option maxHeartbeats 4000000
set_option linter.unusedVariables false
end Go.Proofs.YtaojbkphcnailaaDoor
namespace Go.Proofs.YtaojbkphcnailaaDoor
open Go.Sx
set_option maxRecDepth 20000
set_option linter.unusedSimpArgs false
set_option linter.unusedVariables false
set_option maxHeartbeats 4000000
set_option linter.unusedVariables false
namespace Po
structure L where
  x:T
  pu:Value
  u:Value
def psC (ps:List L):List AV:=ps.flatMap fun p=>cs p.x p.pu p.u
def psV (p:L):List Value:=denL (cs p.x p.pu p.u)
theorem psC_den:∀ ps,denL (psC ps)=ps.flatMap psV
  | []=>rfl
  | p::ps=>by
    have:=psC_den ps
    unfold psC at *
    rw [List.flatMap_cons,List.flatMap_cons,denL_append,this]
    rfl
theorem psC_len (ps:List L):(psC ps).length=ps.length*8:=by
  induction ps with
  | nil=>rfl
  | cons p ps ih =>
    unfold psC at *
    rw [List.flatMap_cons,List.length_append,ih,List.length_cons]
    show 8+_=_
    omega
theorem psC_next (ps:List L) (p:L):psC (ps++[p])=psC ps++cs p.x p.pu p.u:=by
  unfold psC
  rw [List.flatMap_append]
  simp
def Got (F:Heap) (t:TypeId) (X:T) (v:AV) (m:List Blk):Prop :=
  ∃ G pu u,∃ ps:List L,F.le G∧ps.map (·.x)=X.l∧(∀ p∈ps,At G p.x p.pu p.u)∧Pd.Row G pu X.p.l∧v.den=(AV.agg (cs X pu u)).den∧MemFits m [hpB G,⟨addrOf u,psC ps,.row u t 8 ps.length⟩]
theorem row_of {G:Heap} {u:Value} {ps:List L} (h:RowF G 8 (fun p vs=>vs=psV p) u ps) (hall:∀ p∈ps,At G p.x p.pu p.u):Row G u (ps.map (·.x)):=by
  refine ⟨by rw [List.length_map];exact h.ok,fun k x hx=>?_⟩
  rw [List.getElem?_map] at hx
  cases hp:ps[k]? with
  | none=>rw [hp] at hx;cases hx
  | some p =>
    rw [hp] at hx
    simp only [Option.map_some,Option.some.injEq] at hx
    subst hx
    obtain ⟨vs,h1,h2,h3⟩:=h.at_ k p hp
    have hr:=hall p (List.mem_of_getElem? hp)
    refine ⟨vs,?_,h2,h3⟩
    obtain ⟨A,cap,hv,hle,hz⟩:=hr.l.ok
    obtain ⟨pA,pcap,hpv,hple,hpz⟩:=hr.p.ok
    rw [h1]
    obtain ⟨x,pw,w⟩:=p
    dsimp only at hv hpv hr ⊢
    subst hv hpv
    exact R.of hr
abbrev Lays (F:Heap) (X:T) (r:AV) (m:List Blk):Prop:=∃ F' pu u,F.le F'∧At F' X pu u∧r = .agg (cs X pu u)∧m=[hpB F']
theorem got_know {f:FuncId} {args:List AV} {F:Heap} {t:TypeId} {m:List Blk} {X:T} (h:NCall Tryd.prog f args m fun v m'=>Got F t X v m') :
    NCall Tryd.prog f args m fun v m'=>Lays F X v m':=by
  refine Go.Sx.NCall.know h fun r m' ⟨G,pu,u,ps,hle,hmap,hall,hpr,hr,hm⟩ ⟨w,hw⟩=>?_
  have hok:=((hm w hw).1.row (List.mem_cons_of_mem _ (List.mem_cons_self ..))).1
  have hrow:=rowF_new (F:=G) (sz:=8) (enc:=psV) hok (psC_den ps) (fun x _=>rfl)
  refine ⟨_,_,hr.symm,hm.trans (MemFits.freeze (m:=[])),_,pu,u,hle.trans addF.old,⟨Pd.Row.mono addF.old hpr,?_⟩,rfl,rfl⟩
  rw [← hmap]
  exact row_of hrow fun p hp=>At.mono addF.old (hall p hp)
end Po
theorem theirs27_c:∀ (n:Nat) (F:Heap) (x:Po.T) (pu u:Value),Po.tot x≤n→Po.tot x≤1466015503701→Po.At F x pu u →
    NCall Tryd.prog 10 [.agg (Po.cs x pu u)] [hpB F] fun r m=>Po.Lays F x r m
  | 0,F,x,pu,u,hn,_,_=>absurd (Po.tot_pos x) (by omega)
  | n+1,F,⟨k,p,f,v,l⟩,pu,u,hn,hs,hx=>by
    refine Po.got_know (t:=37) ?_
    have hu:Po.Row F u l:=hx.l
    have hpu:Pd.Row F pu p.l:=hx.p
    have hok:=hu.ok
    have hpok:=hpu.ok
    have e2:=Po.tot_mk k p f v l
    have hll:=Po.length_le l
    have ih:∀ G,∀ y∈l,∀ pw w,Po.At G y pw w→NCall Tryd.prog 10 [.agg (Po.cs y pw w)] [hpB G] fun r m=>Po.Lays G y r m:=fun G y hy pw w hw=>theirs27_c n G y pw w (by have:=Po.tot_lt (k:=k) (q:=p) (f:=f) (v:=v) hy;omega) (by have:=Po.tot_lt (k:=k) (q:=p) (f:=f) (v:=v) hy;omega) hw
    have cp:=theirs26_c _ F p pu (Nat.le_refl _) (by omega) hpu
    have hln:l.length≤1466015503701:=by omega
    clear hx hs hn e2 hll
    rw [po_cs]
    obtain ⟨pk,pf,pv,pl⟩:=p
    simp only [Pd.Lays,pd_cs,Pd.T.k,Pd.T.f,Pd.T.v,Pd.T.l] at *
    refine ncall_of Tryd.func10 rfl (by decide) ?_
    (repeat' (first|(with_reducible first|(refine hK _ _ ?_;clear hK K)|(refine hK _ ?_;clear hK K))|((with_reducible refine z25 ?_);intro K hK;(conv=>whnf))|(with_reducible refine z0 ?_)|((first|(with_reducible refine NN.a5 ?_)|((with_reducible refine NH.mk ?s ?_);case s=>(and_intros<;>first|with_reducible rfl|((with_reducible refine gOnes ?_);rfl)|((with_reducible refine gLen ?_);rfl)|((with_reducible refine gKept ?_);exact rfl)|rfl))|((with_reducible refine NCall.isF 14 ?_);refine NCall.subw [0] _ _ (cp) rfl (by decide) rfl ?_;rintro _ _ ⟨F1,pu1,hle1,hpu1,rfl,rfl⟩;refine ⟨Nat.le_of_ble_eq_true rfl,_,rfl,?_⟩))<;>(conv=>whnf))|(with_reducible refine st_ordSout ?_)|((with_reducible refine gNOK ?_);(first|(refine st_ordK1 rfl (by kernel_rfl) rfl ?_;intro K hK;(conv=>whnf))|refine st_ordK0 rfl (by kernel_rfl) ?_|refine st_ordKA rfl rfl (by kernel_rfl) (by intro h;cases h) ?_))|((with_reducible refine gNEK ?_);(first|(refine st_eachK ?_ ?_;(intro K hK;(conv=>whnf)))|exact st_eachK0))|((with_reducible refine gX ?_);(first|refine st_orderS [0,3] rfl rfl (by kernel_rfl) _ rfl ?_|(with_reducible first|refine z3 ?_|refine z4 ?_|refine z5 ?_)))|(with_reducible first|refine z1 ?_|refine z2 ?_)|((with_reducible refine gF ?_);(refine z33 rfl ?_;intro K hK;(conv=>whnf)))|((intro _;skip)<;>(conv=>whnf))))
    all_goals
      have hpok1:=hpu1.ok
      refine st_auto (α:=Heap × Value × List Po.L) (fun (G,w,ps)=>F1.le G∧ps.map (·.x)=l.take ps.length∧ps.length≤l.length∧∀ p∈ps,Po.At G p.x p.pu p.u) (fun (G,w,ps)=>[.keep,.keep,.keep,.keep,.set (.int .i64 ps.length),.keep,.keep,.keep,.keep,.keep,.keep,.keep,.keep,.keep,.keep,.drop,.drop,.drop,.drop,.drop,.drop,.drop,.drop,.drop,.drop,.drop,.drop,.drop,.drop,.drop,.drop,.drop,.drop,.keep])
        (fun (G,w,ps)=>[.set (hpB G),.keep,.keep,.cells [.int .i64 k,.int .i64 pk,.int .i64 pf,.int .i64 pv,.hs pu1 pl.length,.int .i64 f,.int .i64 v,.sl 4 w ps.length],.set ⟨addrOf w,Po.psC ps,.row w 37 8 ps.length⟩]) (fun (G,w,ps)=>l.length - ps.length) (F1,.slice none 0 0,[]) ⟨F1.le_refl,rfl,Nat.zero_le _,fun p hp=>by simp at hp⟩ ?_ ((MemFits.nilRow _ 37 8).trans (MemFits.congr rfl)) ?_
      · repeat (first|exact FitsSl.nil|refine FitsSl.any ?_|refine FitsSl.cons (Fit1.int (by first | rfl | omega)) ?_|refine FitsSl.cons (Fit1.same (by intro h;cases h) (by with_reducible rfl)) ?_)
      (intro ⟨G,w,ps⟩ ⟨hle,hmap,hlen,hall⟩;intro K hK;(conv=>whnf);refine hK _ _ ?_;clear hK K)
      dsimp only
      generalize hk:ps.length=i at *
      by_cases hlt:i<l.length
      · have hx:l[i]?=some l[i]:=List.getElem?_eq_getElem hlt
        obtain ⟨pA,pcap,A,cap,hA,c0,c1,c2,c3,c4,c5,c6,c7⟩:=(Po.Row.mono (hle1.trans hle) hu).get hx
        have hAo:=hA.l.ok
        have hAp:=hA.p.ok
        have hmem:=List.mem_of_getElem? hx
        have c:=ih G _ hmem _ _ hA
        have hnx:l.take (i+1)=l.take i++[l[i]]:=by rw [List.take_add_one,hx];rfl
        clear ih
        generalize l[i]=y at *
        have hpl:=Po.psC_len ps
        have hpn:=Po.psC_next ps
        generalize hpc:Po.psC ps=pc at *
        obtain ⟨yk,⟨ypk,ypf,ypv,ypl⟩,yf,yv,yl⟩:=y
        simp only [Po.Lays,Po.cs,Po.T.k,Po.T.p,Po.T.f,Po.T.v,Po.T.l,Pd.T.k,Pd.T.f,Pd.T.v,Pd.T.l] at c c0 c1 c2 c3 c4 c5 c6 c7 hAo hAp
        (repeat' (first|(with_reducible first|(refine hK _ _ ?_;clear hK K)|(refine hA ?_;clear hA hB A B)|(refine hK _ ?_;clear hK K))|((with_reducible refine z25 ?_);intro K hK;(conv=>whnf))|(with_reducible refine z0 ?_)|((first|((with_reducible refine NV.i64 ?s ?_);case s=>omega)|((with_reducible refine NIf.decY ?s ?_);case s=>omega)|(with_reducible first|refine NN.cast ?_|refine NN.a5 ?_|refine NN.keep ?_)|((with_reducible refine NH.mk ?s ?_);case s=>(and_intros<;>first|with_reducible rfl|((with_reducible refine gOnes ?_);rfl)|((with_reducible refine gLen ?_);rfl)|omega))|((with_reducible refine NCall.isF 10 ?_);refine NCall.subw [0] _ _ (c) rfl (by decide) rfl ?_;rintro _ _ ⟨G',pw',w',hle2,hrow,rfl,rfl⟩;refine ⟨Nat.le_of_ble_eq_true rfl,_,rfl,?_⟩)|(with_reducible refine NLd.of (by with_reducible assumption) ?_))<;>(conv=>whnf))|((with_reducible refine gNO ?_);(first|(refine z36 rfl (by kernel_rfl) ?_;intro K hK;(conv=>whnf))|refine z38 rfl (by kernel_rfl) ?_|refine z39 rfl rfl (by kernel_rfl) (by intro h;cases h) ?_))|((with_reducible refine gNE ?_);(first|(refine z40 ?_ ?_;(intro K hK;(conv=>whnf)))|exact z42))|((with_reducible refine gX ?_);(first|refine z35 (by kernel_rfl) _ rfl ?_|(with_reducible first|refine z3 ?_|refine z4 ?_|refine z5 ?_|refine z6 ?_)|((with_reducible refine z29 ?_);intro A B hA hB;(conv=>whnf))))|(with_reducible first|refine z1 ?_|refine z2 ?_|refine z9 ?_)|((intro _;skip)<;>(conv=>whnf))))
        all_goals
          rename_i v9
          refine st_round (G',v9,ps++[⟨.mk yk (.mk ypk ypf ypv ypl) yf yv yl,pw',w'⟩]) ⟨hle.trans hle2,by rw [List.map_append,hmap,List.length_append,hk];exact hnx.symm,by rw [List.length_append,hk];exact hlt,fun x hx=>?_⟩ (by rw [List.length_append,hk];show l.length - (i+1)<l.length - i;omega) ?_ (MemFits.pre 5 ?_)
          · rcases List.mem_append.1 hx with hx | hx
            · exact Po.At.mono hle2 (hall x hx)
            · rw [List.mem_singleton.1 hx];exact hrow
          · simp only [List.length_append,hk]
            repeat (first|exact FitsSl.nil|refine FitsSl.any ?_|refine FitsSl.cons (Fit1.int (by first | rfl | omega)) ?_|refine FitsSl.cons (Fit1.same (by intro h;cases h) (by with_reducible rfl)) ?_)
          · simp only [autoM,List.take,List.length_append,hk,hpn]
            rw [show i+[(⟨.mk yk (.mk ypk ypf ypv ypl) yf yv yl,pw',w'⟩:Po.L)].length=i+1 from rfl]
            rfl
      · have hkl:i=l.length:=by omega
        subst hkl
        clear ih cp
        (repeat' (first|(with_reducible first|(refine hK _ _ ?_;clear hK K)|(refine hB ?_;clear hA hB A B)|(refine hK _ ?_;clear hK K))|((with_reducible refine z25 ?_);intro K hK;(conv=>whnf))|(with_reducible refine z0 ?_)|((first|((with_reducible refine NIf.decN ?s ?_);case s=>omega)|(with_reducible refine NN.a5 ?_)|((with_reducible refine NH.mk ?s ?_);case s=>(and_intros<;>first|with_reducible rfl|((with_reducible refine gOnes ?_);rfl)|((with_reducible refine gLen ?_);rfl)|omega)))<;>(conv=>whnf))|(with_reducible first|refine z3 ?_|refine z4 ?_|refine z7 ?_|refine z8 ?_)|((with_reducible refine z29 ?_);intro A B hA hB;(conv=>whnf))|(with_reducible first|refine z1 ?_|refine z2 ?_|refine z10 ?_|refine z11 ?_|refine z19 ?_)|((with_reducible refine gR ?_);(refine z31 rfl ?_;intro K hK;(conv=>whnf)))))
        all_goals exact ⟨G,pu1,w,ps,hle1.trans hle,by rw [hmap,List.take_length];rfl,hall,Pd.Row.mono hle hpu1,rfl,by rw [hk];exact MemFits.pick [0,4] (by decide) rfl⟩
end Go.Proofs.YtaojbkphcnailaaDoor
