import Derived.Test.YtaojbkphcnailaaDoorJ29
import Derived.Test.YtaojbkphcnailaaDoorJ26
namespace Go.Proofs.YtaojbkphcnailaaDoor
open Go.Sx
set_option maxRecDepth 20000
set_option linter.unusedVariables false
namespace Ps
open Lx (B)
theorem toks_of {t:List UInt8} {ls:List B} (h:bs t=some ls):∃ L,Lx.toks t=some L∧L.map (·.1)=ls:=by
  unfold bs at h
  cases ht:Lx.toks t with
  | none=>rw [ht] at h;cases h
  | some L =>
    rw [ht] at h
    injection h with h
    exact ⟨L,rfl,h⟩
end Ps
end Go.Proofs.YtaojbkphcnailaaDoor
namespace Go.Proofs.YtaojbkphcnailaaDoor
open Go.Sx
set_option maxRecDepth 20000
set_option linter.unusedSimpArgs false
set_option linter.unusedVariables false
set_option maxHeartbeats 4000000
set_option linter.unusedVariables false
theorem policy29_c (v:Value) (l:List Lx.T) (hl:Ps.Good l) (h0:0<l.length):Ps.P27 v l 27 (Ps.rows (l.map Lx.b) (Ps.step (l.map Lx.b) (l.map Lx.b).length) 0) 0:=by
  have hlen:(l.map Lx.b).length=l.length:=List.length_map ..
  exact policy27_c v l hl (Ps.step (l.map Lx.b) (l.map Lx.b).length) 0 h0 fun i' h1 h2=>row27_c v l hl (Ps.step (l.map Lx.b) (l.map Lx.b).length) i' h2 fun i'' h3 h4=>step29_c v l hl (l.map Lx.b).length i'' (by rw [hlen];omega) h4
theorem cond29_c (v:Value) (l:List Lx.T) (hl:Ps.Good l) (h0:0<l.length):Ps.P26 v l 32 (Ps.cond (l.map Lx.b) (Ps.part (l.map Lx.b) (l.map Lx.b).length) 0) 0:=by
  have hlen:(l.map Lx.b).length=l.length:=List.length_map ..
  exact cond26_c v l hl (Ps.part (l.map Lx.b) (l.map Lx.b).length) 0 h0 fun i' h1 h2=>group26_c v l hl (Ps.part (l.map Lx.b) (l.map Lx.b).length) i' h2 fun i'' h3 h4=>part29_c v l hl (l.map Lx.b).length i'' (by rw [hlen];omega) h4
theorem one27_c (v:Value) (l:List Lx.T) (q:Ps.R Po.T) (hq:Ps.P27 v l 27 q 0):Ps.P27 v l 26 q 0:=by
  intro F b hv
  have cp:=hq F b hv
  refine NCallX.fits (K:=fun r m=>∃ p j G pu u,q = .ok p j∧0≤j∧j<l.length∧F.le G∧Po.At G p pu u∧r.den=(AV.agg (Po.cs p pu u)).den∧MemFits m [hpB G,Ps.pB b v l.length j]) (Kp:=fun ch m=>∃ j x G k,q = .bad j∧l[j]?=some x∧ch=Ps.wrong x.at_∧F.le G∧MemFits m [hpB G,Ps.pB b v l.length k]) ?_ (fun r m' ⟨p,j,G,pu,u,h1,h2,h3,h4,h5,h6,h7⟩=>⟨_,_,h6.symm,h7,p,j,G,pu,u,h1,h2,h3,h4,h5,rfl,rfl⟩) (fun ch m' ⟨j,x,G,k,h1,h2,h3,h4,h5⟩=>⟨_,h5,j,x,G,k,h1,h2,h3,h4,rfl⟩)
  unfold Ps.pB at cp ⊢
  refine ncallx_of Tryd.func26 rfl (by decide) ?_
  (repeat' (first|(with_reducible first|(refine hK _ _ ?_;clear hP hK Kp K)|(refine hP _ _ ?_;clear hP hK Kp K))|(with_reducible (refine hK _ ?_;clear hK K))|((with_reducible refine gOX ?_);(first|((with_reducible refine st_opX ?_);intro K Kp hK hP;(conv=>whnf))|(with_reducible refine st_nilX ?_)))|((first|((with_reducible refine gH ?_);((with_reducible refine NH.mk ?s ?_);case s=>(and_intros<;>first|with_reducible rfl|((with_reducible refine gOnes ?_);rfl)|((with_reducible refine gLen ?_);rfl))))|((with_reducible refine gCX ?_);((with_reducible refine NCallX.isF 27 ?_);refine NCallX.subw [0,1] _ _ (cp) rfl (by decide) rfl ?_ ?_;((rintro _ _ ⟨p,j,G,pu,u,h1,h2,h3,h4,h5,rfl,rfl⟩)<;>refine ⟨Nat.le_of_ble_eq_true rfl,_,rfl,?_⟩);rotate_right;((rintro _ _ ⟨j,x,G,k,h1,h2,rfl,h4,rfl⟩)<;>refine ⟨Nat.le_of_ble_eq_true rfl,?_⟩))))<;>(conv=>whnf))|((with_reducible refine gXX ?_);((with_reducible first|refine st_seqX ?_|refine st_regionX ?_|refine st_retX ?_)))|(with_reducible first|refine st_thenX ?_|refine st_thenX_panic ?_)|((with_reducible refine gRX ?_);(first|((refine st_retX_ret rfl ?_);intro K hK;(conv=>whnf))|(with_reducible refine st_retX_panic ?_)))|((with_reducible refine gFX ?_);((refine st_funcX rfl ?_);intro K hK;(conv=>whnf)))|((intro _;skip)<;>(conv=>whnf))))
  · exact ⟨j,x,G,k,h1,h2,rfl,h4,MemFits.pre 2 rfl⟩
  · exact ⟨p,j,G,pu,u,h1,h2,h3,h4,h5,rfl,MemFits.pre 2 rfl⟩
theorem parse27_c (tx:List UInt8) (hs:tx.length≤4000) (L:List (Lx.B × List UInt8)) (hL:Lx.toks tx=some L) (hl:L.length≤500) (F:Heap) :
    NCall Tryd.prog 7 [.str tx] [hpB F] fun r m =>
      (∃ x G pu u,Ps.whole ((Lx.res tx L).map Lx.b) (Ps.rows ((Lx.res tx L).map Lx.b) (Ps.step ((Lx.res tx L).map Lx.b) ((Lx.res tx L).map Lx.b).length) 0) = .ok x 0∧F.le G∧Po.At G x pu u∧r = .tup [.agg (Po.cs x pu u),.int .i64 0,.int .i64 0]∧m=[hpB G]) ∨
      (∃ j y G,Ps.whole ((Lx.res tx L).map Lx.b) (Ps.rows ((Lx.res tx L).map Lx.b) (Ps.step ((Lx.res tx L).map Lx.b) ((Lx.res tx L).map Lx.b).length) 0) = .bad j∧(Lx.res tx L)[j]?=some y∧F.le G∧r = .tup [.agg [.int .i64 0,.int .i64 0,.int .i64 0,.int .i64 0,.raw (.slice none 0 0),.int .i64 0,.int .i64 0,.raw (.slice none 0 0)],.int .i64 y.at_,.int .i64 10]∧m=[hpB G]):=by
  have h0:0<(Lx.res tx L).length:=by simp [Lx.res]
  have cw:=whole27_c 26 tx hs L hL hl _ (fun v=>one27_c v _ _ (policy29_c v _ (Ps.good_res hl) h0)) F
  refine NCall.fits (K:=fun r m=>(∃ x G pu u,Ps.whole ((Lx.res tx L).map Lx.b) (Ps.rows ((Lx.res tx L).map Lx.b) (Ps.step ((Lx.res tx L).map Lx.b) ((Lx.res tx L).map Lx.b).length) 0) = .ok x 0∧F.le G∧Po.At G x pu u∧r.den=(AV.tup [.agg (Po.cs x pu u),.int .i64 0,.int .i64 0]).den∧MemFits m [hpB G]) ∨
      (∃ j y G,Ps.whole ((Lx.res tx L).map Lx.b) (Ps.rows ((Lx.res tx L).map Lx.b) (Ps.step ((Lx.res tx L).map Lx.b) ((Lx.res tx L).map Lx.b).length) 0) = .bad j∧(Lx.res tx L)[j]?=some y∧F.le G∧r.den=(AV.tup [.agg [.int .i64 0,.int .i64 0,.int .i64 0,.int .i64 0,.raw (.slice none 0 0),.int .i64 0,.int .i64 0,.raw (.slice none 0 0)],.int .i64 y.at_,.int .i64 10]).den∧MemFits m [hpB G])) ?_ fun r m' hq=>?_
  rotate_left
  · rcases hq with ⟨x,G,pu,u,h1,h2,h3,h4,h5⟩ | ⟨j,y,G,h1,h2,h3,h4,h5⟩
    · exact ⟨_,_,h4.symm,h5,.inl ⟨x,G,pu,u,h1,h2,h3,rfl,rfl⟩⟩
    · exact ⟨_,_,h4.symm,h5,.inr ⟨j,y,G,h1,h2,h3,rfl,rfl⟩⟩
  generalize Ps.whole ((Lx.res tx L).map Lx.b) (Ps.rows ((Lx.res tx L).map Lx.b) (Ps.step ((Lx.res tx L).map Lx.b) ((Lx.res tx L).map Lx.b).length) 0)=q at *
  refine ncall_of Tryd.func7 rfl (by decide) ?_
  rcases q with ⟨x,i⟩ | j
  · have cw1:NCall Tryd.prog 25 [.str tx,.fn 26 [] []] [hpB F] fun r m=>∃ G pu u,i=0∧F.le G∧Po.At G x pu u∧r = .tup [.agg (Po.cs x pu u),.int .i64 0,.int .i64 0]∧m=[hpB G]:=cw.mono fun r m h=>by
      rcases h with ⟨x',G,pu,u,h1,h2,h3,h4,h5⟩ | ⟨j,y,G,h1,_⟩
      · cases h1
        exact ⟨G,pu,u,rfl,h2,h3,h4,h5⟩
      · cases h1
    (repeat' (first|(with_reducible first|(refine hK _ _ ?_;clear hK K)|(refine hK _ ?_;clear hK K))|((with_reducible refine z25 ?_);intro K hK;(conv=>whnf))|(with_reducible refine z0 ?_)|((first|((with_reducible refine NH.mk ?s ?_);case s=>(and_intros<;>first|with_reducible rfl|((with_reducible refine gOnes ?_);rfl)|((with_reducible refine gLen ?_);rfl)))|((with_reducible refine NCall.isF 25 ?_);refine NCall.subw [0] _ _ (cw1) rfl (by decide) rfl ?_;rintro _ _ ⟨G,pu,u,h1,h2,h3,rfl,rfl⟩;refine ⟨Nat.le_of_ble_eq_true rfl,_,rfl,?_⟩))<;>(conv=>whnf))|(with_reducible first|refine z3 ?_|refine z4 ?_|refine z8 ?_|refine z1 ?_|refine z2 ?_)|((with_reducible refine gR ?_);(refine z31 rfl ?_;intro K hK;(conv=>whnf)))|((with_reducible refine gF ?_);(refine z33 rfl ?_;intro K hK;(conv=>whnf)))|((intro _;skip)<;>(conv=>whnf))))
    all_goals exact .inl ⟨x,G,pu,u,by rw [h1],h2,h3,rfl,MemFits.pre 1 rfl⟩
  · have cw1:NCall Tryd.prog 25 [.str tx,.fn 26 [] []] [hpB F] fun r m=>∃ y G,(Lx.res tx L)[j]?=some y∧F.le G∧r = .tup [.agg [.int .i64 0,.int .i64 0,.int .i64 0,.int .i64 0,.raw (.slice none 0 0),.int .i64 0,.int .i64 0,.raw (.slice none 0 0)],.int .i64 y.at_,.int .i64 10]∧m=[hpB G]:=cw.mono fun r m h=>by
      rcases h with ⟨x',G,pu,u,h1,_⟩ | ⟨j,y,G,h1,h2,h3,h4,h5⟩
      · cases h1
      · cases h1
        exact ⟨y,G,h2,h3,h4,h5⟩
    (repeat' (first|(with_reducible first|(refine hK _ _ ?_;clear hK K)|(refine hK _ ?_;clear hK K))|((with_reducible refine z25 ?_);intro K hK;(conv=>whnf))|(with_reducible refine z0 ?_)|((first|((with_reducible refine NH.mk ?s ?_);case s=>(and_intros<;>first|with_reducible rfl|((with_reducible refine gOnes ?_);rfl)|((with_reducible refine gLen ?_);rfl)))|((with_reducible refine NCall.isF 25 ?_);refine NCall.subw [0] _ _ (cw1) rfl (by decide) rfl ?_;rintro _ _ ⟨y,G,h2,h3,rfl,rfl⟩;refine ⟨Nat.le_of_ble_eq_true rfl,_,rfl,?_⟩))<;>(conv=>whnf))|(with_reducible first|refine z3 ?_|refine z4 ?_|refine z8 ?_|refine z1 ?_|refine z2 ?_)|((with_reducible refine gR ?_);(refine z31 rfl ?_;intro K hK;(conv=>whnf)))|((with_reducible refine gF ?_);(refine z33 rfl ?_;intro K hK;(conv=>whnf)))|((intro _;skip)<;>(conv=>whnf))))
    all_goals exact .inr ⟨j,y,G,rfl,h2,h3,rfl,MemFits.pre 1 rfl⟩
theorem one26_c (v:Value) (l:List Lx.T) (q:Ps.R Pd.T) (hq:Ps.P26 v l 32 q 0):Ps.P26 v l 31 q 0:=by
  intro F b hv
  have cp:=hq F b hv
  refine NCallX.fits (K:=fun r m=>∃ p j G u,q = .ok p j∧0≤j∧j<l.length∧F.le G∧Pd.Row G u p.l∧r.den=(AV.agg (Pd.cs p u)).den∧MemFits m [hpB G,Ps.pB b v l.length j]) (Kp:=fun ch m=>∃ j x G k,q = .bad j∧l[j]?=some x∧ch=Ps.wrong x.at_∧F.le G∧MemFits m [hpB G,Ps.pB b v l.length k]) ?_ (fun r m' ⟨p,j,G,u,h1,h2,h3,h4,h5,h6,h7⟩=>⟨_,_,h6.symm,h7,p,j,G,u,h1,h2,h3,h4,h5,rfl,rfl⟩) (fun ch m' ⟨j,x,G,k,h1,h2,h3,h4,h5⟩=>⟨_,h5,j,x,G,k,h1,h2,h3,h4,rfl⟩)
  unfold Ps.pB at cp ⊢
  refine ncallx_of Tryd.func31 rfl (by decide) ?_
  (repeat' (first|(with_reducible first|(refine hK _ _ ?_;clear hP hK Kp K)|(refine hP _ _ ?_;clear hP hK Kp K))|(with_reducible (refine hK _ ?_;clear hK K))|((with_reducible refine gOX ?_);(first|((with_reducible refine st_opX ?_);intro K Kp hK hP;(conv=>whnf))|(with_reducible refine st_nilX ?_)))|((first|((with_reducible refine gH ?_);((with_reducible refine NH.mk ?s ?_);case s=>(and_intros<;>first|with_reducible rfl|((with_reducible refine gOnes ?_);rfl)|((with_reducible refine gLen ?_);rfl))))|((with_reducible refine gCX ?_);((with_reducible refine NCallX.isF 32 ?_);refine NCallX.subw [0,1] _ _ (cp) rfl (by decide) rfl ?_ ?_;((rintro _ _ ⟨p,j,G,u,h1,h2,h3,h4,h5,rfl,rfl⟩)<;>refine ⟨Nat.le_of_ble_eq_true rfl,_,rfl,?_⟩);rotate_right;((rintro _ _ ⟨j,x,G,k,h1,h2,rfl,h4,rfl⟩)<;>refine ⟨Nat.le_of_ble_eq_true rfl,?_⟩))))<;>(conv=>whnf))|((with_reducible refine gXX ?_);((with_reducible first|refine st_seqX ?_|refine st_regionX ?_|refine st_retX ?_)))|(with_reducible first|refine st_thenX ?_|refine st_thenX_panic ?_)|((with_reducible refine gRX ?_);(first|((refine st_retX_ret rfl ?_);intro K hK;(conv=>whnf))|(with_reducible refine st_retX_panic ?_)))|((with_reducible refine gFX ?_);((refine st_funcX rfl ?_);intro K hK;(conv=>whnf)))|((intro _;skip)<;>(conv=>whnf))))
  · exact ⟨j,x,G,k,h1,h2,rfl,h4,MemFits.pre 2 rfl⟩
  · exact ⟨p,j,G,u,h1,h2,h3,h4,h5,rfl,MemFits.pre 2 rfl⟩
theorem parse26_c (tx:List UInt8) (hs:tx.length≤4000) (L:List (Lx.B × List UInt8)) (hL:Lx.toks tx=some L) (hl:L.length≤500) (F:Heap) :
    NCall Tryd.prog 11 [.str tx] [hpB F] fun r m =>
      (∃ x G u,Ps.whole ((Lx.res tx L).map Lx.b) (Ps.cond ((Lx.res tx L).map Lx.b) (Ps.part ((Lx.res tx L).map Lx.b) ((Lx.res tx L).map Lx.b).length) 0) = .ok x 0∧F.le G∧Pd.Row G u x.l∧r = .tup [.agg (Pd.cs x u),.int .i64 0,.int .i64 0]∧m=[hpB G]) ∨
      (∃ j y G,Ps.whole ((Lx.res tx L).map Lx.b) (Ps.cond ((Lx.res tx L).map Lx.b) (Ps.part ((Lx.res tx L).map Lx.b) ((Lx.res tx L).map Lx.b).length) 0) = .bad j∧(Lx.res tx L)[j]?=some y∧F.le G∧r = .tup [.agg [.int .i64 0,.int .i64 0,.int .i64 0,.raw (.slice none 0 0)],.int .i64 y.at_,.int .i64 10]∧m=[hpB G]):=by
  have h0:0<(Lx.res tx L).length:=by simp [Lx.res]
  have cw:=whole26_c 31 tx hs L hL hl _ (fun v=>one26_c v _ _ (cond29_c v _ (Ps.good_res hl) h0)) F
  refine NCall.fits (K:=fun r m=>(∃ x G u,Ps.whole ((Lx.res tx L).map Lx.b) (Ps.cond ((Lx.res tx L).map Lx.b) (Ps.part ((Lx.res tx L).map Lx.b) ((Lx.res tx L).map Lx.b).length) 0) = .ok x 0∧F.le G∧Pd.Row G u x.l∧r.den=(AV.tup [.agg (Pd.cs x u),.int .i64 0,.int .i64 0]).den∧MemFits m [hpB G]) ∨
      (∃ j y G,Ps.whole ((Lx.res tx L).map Lx.b) (Ps.cond ((Lx.res tx L).map Lx.b) (Ps.part ((Lx.res tx L).map Lx.b) ((Lx.res tx L).map Lx.b).length) 0) = .bad j∧(Lx.res tx L)[j]?=some y∧F.le G∧r.den=(AV.tup [.agg [.int .i64 0,.int .i64 0,.int .i64 0,.raw (.slice none 0 0)],.int .i64 y.at_,.int .i64 10]).den∧MemFits m [hpB G])) ?_ fun r m' hq=>?_
  rotate_left
  · rcases hq with ⟨x,G,u,h1,h2,h3,h4,h5⟩ | ⟨j,y,G,h1,h2,h3,h4,h5⟩
    · exact ⟨_,_,h4.symm,h5,.inl ⟨x,G,u,h1,h2,h3,rfl,rfl⟩⟩
    · exact ⟨_,_,h4.symm,h5,.inr ⟨j,y,G,h1,h2,h3,rfl,rfl⟩⟩
  generalize Ps.whole ((Lx.res tx L).map Lx.b) (Ps.cond ((Lx.res tx L).map Lx.b) (Ps.part ((Lx.res tx L).map Lx.b) ((Lx.res tx L).map Lx.b).length) 0)=q at *
  refine ncall_of Tryd.func11 rfl (by decide) ?_
  rcases q with ⟨x,i⟩ | j
  · have cw1:NCall Tryd.prog 30 [.str tx,.fn 31 [] []] [hpB F] fun r m=>∃ G u,i=0∧F.le G∧Pd.Row G u x.l∧r = .tup [.agg (Pd.cs x u),.int .i64 0,.int .i64 0]∧m=[hpB G]:=cw.mono fun r m h=>by
      rcases h with ⟨x',G,u,h1,h2,h3,h4,h5⟩ | ⟨j,y,G,h1,_⟩
      · cases h1
        exact ⟨G,u,rfl,h2,h3,h4,h5⟩
      · cases h1
    (repeat' (first|(with_reducible first|(refine hK _ _ ?_;clear hK K)|(refine hK _ ?_;clear hK K))|((with_reducible refine z25 ?_);intro K hK;(conv=>whnf))|(with_reducible refine z0 ?_)|((first|((with_reducible refine NH.mk ?s ?_);case s=>(and_intros<;>first|with_reducible rfl|((with_reducible refine gOnes ?_);rfl)|((with_reducible refine gLen ?_);rfl)))|((with_reducible refine NCall.isF 30 ?_);refine NCall.subw [0] _ _ (cw1) rfl (by decide) rfl ?_;rintro _ _ ⟨G,u,h1,h2,h3,rfl,rfl⟩;refine ⟨Nat.le_of_ble_eq_true rfl,_,rfl,?_⟩))<;>(conv=>whnf))|(with_reducible first|refine z3 ?_|refine z4 ?_|refine z8 ?_|refine z1 ?_|refine z2 ?_)|((with_reducible refine gR ?_);(refine z31 rfl ?_;intro K hK;(conv=>whnf)))|((with_reducible refine gF ?_);(refine z33 rfl ?_;intro K hK;(conv=>whnf)))|((intro _;skip)<;>(conv=>whnf))))
    all_goals exact .inl ⟨x,G,u,by rw [h1],h2,h3,rfl,MemFits.pre 1 rfl⟩
  · have cw1:NCall Tryd.prog 30 [.str tx,.fn 31 [] []] [hpB F] fun r m=>∃ y G,(Lx.res tx L)[j]?=some y∧F.le G∧r = .tup [.agg [.int .i64 0,.int .i64 0,.int .i64 0,.raw (.slice none 0 0)],.int .i64 y.at_,.int .i64 10]∧m=[hpB G]:=cw.mono fun r m h=>by
      rcases h with ⟨x',G,u,h1,_⟩ | ⟨j,y,G,h1,h2,h3,h4,h5⟩
      · cases h1
      · cases h1
        exact ⟨y,G,h2,h3,h4,h5⟩
    (repeat' (first|(with_reducible first|(refine hK _ _ ?_;clear hK K)|(refine hK _ ?_;clear hK K))|((with_reducible refine z25 ?_);intro K hK;(conv=>whnf))|(with_reducible refine z0 ?_)|((first|((with_reducible refine NH.mk ?s ?_);case s=>(and_intros<;>first|with_reducible rfl|((with_reducible refine gOnes ?_);rfl)|((with_reducible refine gLen ?_);rfl)))|((with_reducible refine NCall.isF 30 ?_);refine NCall.subw [0] _ _ (cw1) rfl (by decide) rfl ?_;rintro _ _ ⟨y,G,h2,h3,rfl,rfl⟩;refine ⟨Nat.le_of_ble_eq_true rfl,_,rfl,?_⟩))<;>(conv=>whnf))|(with_reducible first|refine z3 ?_|refine z4 ?_|refine z8 ?_|refine z1 ?_|refine z2 ?_)|((with_reducible refine gR ?_);(refine z31 rfl ?_;intro K hK;(conv=>whnf)))|((with_reducible refine gF ?_);(refine z33 rfl ?_;intro K hK;(conv=>whnf)))|((intro _;skip)<;>(conv=>whnf))))
    all_goals exact .inr ⟨j,y,G,rfl,h2,h3,rfl,MemFits.pre 1 rfl⟩
end Go.Proofs.YtaojbkphcnailaaDoor
