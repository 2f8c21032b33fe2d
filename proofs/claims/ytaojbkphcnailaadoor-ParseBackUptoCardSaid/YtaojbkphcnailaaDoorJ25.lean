import Derived.Test.YtaojbkphcnailaaDoorJ19
import Derived.Test.YtaojbkphcnailaaDoorJ24
import Derived.Test.YtaojbkphcnailaaDoorJ5
import Derived.Lib.Join
import Derived.Test.YtaojbkphcnailaaDoorSxC
namespace Go.Proofs.YtaojbkphcnailaaDoor
open Go.Sx
set_option maxRecDepth 20000
set_option linter.unusedSimpArgs false
set_option linter.unusedVariables false
set_option maxHeartbeats 4000000
set_option linter.unusedVariables false
theorem policy29_c (v:Value) (l:List Lx.T) (hl:Ps.Good l) (h0:0<l.length):Ps.P27 v l 27 (Ps.rows (l.map Lx.b) (Ps.step (l.map Lx.b) (l.map Lx.b).length) 0) 0:=by
  have hlen:(l.map Lx.b).length=l.length:=List.length_map ..
  exact policy27_c v l hl (Ps.step (l.map Lx.b) (l.map Lx.b).length) 0 h0 fun i' h1 h2=>row27_c v l hl (Ps.step (l.map Lx.b) (l.map Lx.b).length) i' h2 fun i'' h3 h4=>step29_c v l hl (l.map Lx.b).length i'' (by rw [hlen];omega) h4
theorem cond29_c (v:Value) (l:List Lx.T) (hl:Ps.Good l) (h0:0<l.length):Ps.P26 v l 32 (Ps.cond (l.map Lx.b) (Ps.part (l.map Lx.b) (l.map Lx.b).length) 0) 0:=by
  have hlen:(l.map Lx.b).length=l.length:=List.length_map ..
  exact cond26_c v l hl (Ps.part (l.map Lx.b) (l.map Lx.b).length) 0 h0 fun i' h1 h2=>group26_c v l hl (Ps.part (l.map Lx.b) (l.map Lx.b).length) i' h2 fun i'' h3 h4=>part29_c v l hl (l.map Lx.b).length i'' (by rw [hlen];omega) h4
theorem one27_c (v:Value) (l:List Lx.T) (q:Ps.R Po.T) (hq:Ps.P27 v l 27 q 0):Ps.P27 v l 26 q 0:=by
  intro F b hv
  have cp:=hq F b hv
  refine NCallX.fits (K:=fun r m=>∃ p j G pu u,q = .ok p j∧0≤j∧j<l.length∧F.le G∧Po.At G p pu u∧r.den=(AV.agg (Po.cs p pu u)).den∧MemFits m [hpB G,Ps.pB b v l.length j]) (Kp:=fun ch m=>∃ j x G k,q = .bad j∧l[j]?=some x∧ch=Ps.wrong x.at_∧F.le G∧MemFits m [hpB G,Ps.pB b v l.length k]) ?_ (fun r m' ⟨p,j,G,pu,u,h1,h2,h3,h4,h5,h6,h7⟩=>⟨_,_,h6.symm,h7,p,j,G,pu,u,h1,h2,h3,h4,h5,rfl,rfl⟩) (fun ch m' ⟨j,x,G,k,h1,h2,h3,h4,h5⟩=>⟨_,h5,j,x,G,k,h1,h2,h3,h4,rfl⟩)
  unfold Ps.pB at cp ⊢
  refine ncallx_of Tryd.func26 rfl (by decide) ?_
  (repeat' (first|(with_reducible first|(refine hK _ _ ?_;clear hP hK Kp K)|(refine hP _ _ ?_;clear hP hK Kp K))|(with_reducible (refine hK _ ?_;clear hK K))|((with_reducible refine gOX ?_);(first|((with_reducible refine st_opX ?_);intro K Kp hK hP;(conv=>whnf))|(with_reducible refine st_nilX ?_)))|((first|((with_reducible refine gH ?_);((with_reducible refine NH.mk ?s ?_);case s=>(and_intros<;>first|with_reducible rfl|((with_reducible refine gOnes ?_);rfl)|((with_reducible refine gLen ?_);rfl))))|((with_reducible refine gCX ?_);((with_reducible refine NCallX.isF 27 ?_);refine NCallX.subw [0,1] _ _ (cp) rfl (by decide) rfl ?_ ?_;((rintro _ _ ⟨p,j,G,pu,u,h1,h2,h3,h4,h5,rfl,rfl⟩)<;>refine ⟨Nat.le_of_ble_eq_true rfl,_,rfl,?_⟩);rotate_right;((rintro _ _ ⟨j,x,G,k,h1,h2,rfl,h4,rfl⟩)<;>refine ⟨Nat.le_of_ble_eq_true rfl,?_⟩))))<;>(conv=>whnf))|((with_reducible refine gXX ?_);((with_reducible first|refine st_seqX ?_|refine st_regionX ?_|refine st_retX ?_)))|(with_reducible first|refine st_thenX ?_|refine st_thenX_panic ?_)|((with_reducible refine gRX ?_);(first|((refine st_retX_ret rfl ?_);intro K hK;(conv=>whnf))|(with_reducible refine st_retX_panic ?_)))|((with_reducible refine gFX ?_);((refine st_funcX rfl ?_);intro K hK;(conv=>whnf)))|((intro _;skip)<;>(conv=>whnf))))
  · exact ⟨j,x,G,k,h1,h2,rfl,h4,MemFits.pre 2 rfl⟩
  · exact ⟨p,j,G,pu,u,h1,h2,h3,h4,h5,rfl,MemFits.pre 2 rfl⟩
theorem parse27_c (tx:List UInt8) (hs:tx.length≤4000) (L:List (Lx.B × List UInt8)) (hL:Lx.toks tx=some L) (hl:L.length≤500) (F:Heap) :
    NCall Tryd.prog 7 [.str tx] [hpB F] fun r m =>
      (∃ x G pu u,Ps.whole ((Lx.res tx L).map Lx.b) (Ps.rows ((Lx.res tx L).map Lx.b) (Ps.step ((Lx.res tx L).map Lx.b) ((Lx.res tx L).map Lx.b).length) 0) = .ok x 0∧F.le G∧Po.At G x pu u∧r = .tup [.agg (Po.cs x pu u),.int .i64 0,.int .i64 0]∧m=[hpB G]) ∨
      (∃ j y G,Ps.whole ((Lx.res tx L).map Lx.b) (Ps.rows ((Lx.res tx L).map Lx.b) (Ps.step ((Lx.res tx L).map Lx.b) ((Lx.res tx L).map Lx.b).length) 0) = .bad j∧(Lx.res tx L)[j]?=some y∧F.le G∧r = .tup [.agg [.int .i64 0,.int .i64 0,.int .i64 0,.int .i64 0,.raw (.slice none 0 0),.int .i64 0,.int .i64 0,.raw (.slice none 0 0)],.int .i64 y.at_,.int .i64 10]∧m=[hpB G]):=by
  have h0:0<(Lx.res tx L).length:=by simp [Lx.res]
  have cw:=whole27_c 26 tx hs L hL hl _ (fun v=>one27_c v _ _ (policy29_c v _ (Ps.good_res hl) h0)) F
  refine NCall.fits (K:=fun r m=>(∃ x G pu u,Ps.whole ((Lx.res tx L).map Lx.b) (Ps.rows ((Lx.res tx L).map Lx.b) (Ps.step ((Lx.res tx L).map Lx.b) ((Lx.res tx L).map Lx.b).length) 0) = .ok x 0∧F.le G∧Po.At G x pu u∧r.den=(AV.tup [.agg (Po.cs x pu u),.int .i64 0,.int .i64 0]).den∧MemFits m [hpB G]) ∨
      (∃ j y G,Ps.whole ((Lx.res tx L).map Lx.b) (Ps.rows ((Lx.res tx L).map Lx.b) (Ps.step ((Lx.res tx L).map Lx.b) ((Lx.res tx L).map Lx.b).length) 0) = .bad j∧(Lx.res tx L)[j]?=some y∧F.le G∧r.den=(AV.tup [.agg [.int .i64 0,.int .i64 0,.int .i64 0,.int .i64 0,.raw (.slice none 0 0),.int .i64 0,.int .i64 0,.raw (.slice none 0 0)],.int .i64 y.at_,.int .i64 10]).den∧MemFits m [hpB G])) ?_ fun r m' hq=>?_
  rotate_left
  · rcases hq with ⟨x,G,pu,u,h1,h2,h3,h4,h5⟩ | ⟨j,y,G,h1,h2,h3,h4,h5⟩
    · exact ⟨_,_,h4.symm,h5,.inl ⟨x,G,pu,u,h1,h2,h3,rfl,rfl⟩⟩
    · exact ⟨_,_,h4.symm,h5,.inr ⟨j,y,G,h1,h2,h3,rfl,rfl⟩⟩
  generalize Ps.whole ((Lx.res tx L).map Lx.b) (Ps.rows ((Lx.res tx L).map Lx.b) (Ps.step ((Lx.res tx L).map Lx.b) ((Lx.res tx L).map Lx.b).length) 0)=q at *
  refine ncall_of Tryd.func7 rfl (by decide) ?_
  rcases q with ⟨x,i⟩ | j
  · have cw1:NCall Tryd.prog 25 [.str tx,.fn 26 [] []] [hpB F] fun r m=>∃ G pu u,i=0∧F.le G∧Po.At G x pu u∧r = .tup [.agg (Po.cs x pu u),.int .i64 0,.int .i64 0]∧m=[hpB G]:=cw.mono fun r m h=>by
      rcases h with ⟨x',G,pu,u,h1,h2,h3,h4,h5⟩ | ⟨j,y,G,h1,_⟩
      · cases h1
        exact ⟨G,pu,u,rfl,h2,h3,h4,h5⟩
      · cases h1
    (repeat' (first|(with_reducible first|(refine hK _ _ ?_;clear hK K)|(refine hK _ ?_;clear hK K))|((with_reducible refine z25 ?_);intro K hK;(conv=>whnf))|(with_reducible refine z0 ?_)|((first|((with_reducible refine NH.mk ?s ?_);case s=>(and_intros<;>first|with_reducible rfl|((with_reducible refine gOnes ?_);rfl)|((with_reducible refine gLen ?_);rfl)))|((with_reducible refine NCall.isF 25 ?_);refine NCall.subw [0] _ _ (cw1) rfl (by decide) rfl ?_;rintro _ _ ⟨G,pu,u,h1,h2,h3,rfl,rfl⟩;refine ⟨Nat.le_of_ble_eq_true rfl,_,rfl,?_⟩))<;>(conv=>whnf))|(with_reducible first|refine z3 ?_|refine z4 ?_|refine z8 ?_|refine z1 ?_|refine z2 ?_)|((with_reducible refine gR ?_);(refine z31 rfl ?_;intro K hK;(conv=>whnf)))|((with_reducible refine gF ?_);(refine z33 rfl ?_;intro K hK;(conv=>whnf)))|((intro _;skip)<;>(conv=>whnf))))
    all_goals exact .inl ⟨x,G,pu,u,by rw [h1],h2,h3,rfl,MemFits.pre 1 rfl⟩
  · have cw1:NCall Tryd.prog 25 [.str tx,.fn 26 [] []] [hpB F] fun r m=>∃ y G,(Lx.res tx L)[j]?=some y∧F.le G∧r = .tup [.agg [.int .i64 0,.int .i64 0,.int .i64 0,.int .i64 0,.raw (.slice none 0 0),.int .i64 0,.int .i64 0,.raw (.slice none 0 0)],.int .i64 y.at_,.int .i64 10]∧m=[hpB G]:=cw.mono fun r m h=>by
      rcases h with ⟨x',G,pu,u,h1,_⟩ | ⟨j,y,G,h1,h2,h3,h4,h5⟩
      · cases h1
      · cases h1
        exact ⟨y,G,h2,h3,h4,h5⟩
    (repeat' (first|(with_reducible first|(refine hK _ _ ?_;clear hK K)|(refine hK _ ?_;clear hK K))|((with_reducible refine z25 ?_);intro K hK;(conv=>whnf))|(with_reducible refine z0 ?_)|((first|((with_reducible refine NH.mk ?s ?_);case s=>(and_intros<;>first|with_reducible rfl|((with_reducible refine gOnes ?_);rfl)|((with_reducible refine gLen ?_);rfl)))|((with_reducible refine NCall.isF 25 ?_);refine NCall.subw [0] _ _ (cw1) rfl (by decide) rfl ?_;rintro _ _ ⟨y,G,h2,h3,rfl,rfl⟩;refine ⟨Nat.le_of_ble_eq_true rfl,_,rfl,?_⟩))<;>(conv=>whnf))|(with_reducible first|refine z3 ?_|refine z4 ?_|refine z8 ?_|refine z1 ?_|refine z2 ?_)|((with_reducible refine gR ?_);(refine z31 rfl ?_;intro K hK;(conv=>whnf)))|((with_reducible refine gF ?_);(refine z33 rfl ?_;intro K hK;(conv=>whnf)))|((intro _;skip)<;>(conv=>whnf))))
    all_goals exact .inr ⟨j,y,G,rfl,h2,h3,rfl,MemFits.pre 1 rfl⟩
theorem one26_c (v:Value) (l:List Lx.T) (q:Ps.R Pd.T) (hq:Ps.P26 v l 32 q 0):Ps.P26 v l 31 q 0:=by
  intro F b hv
  have cp:=hq F b hv
  refine NCallX.fits (K:=fun r m=>∃ p j G u,q = .ok p j∧0≤j∧j<l.length∧F.le G∧Pd.Row G u p.l∧r.den=(AV.agg (Pd.cs p u)).den∧MemFits m [hpB G,Ps.pB b v l.length j]) (Kp:=fun ch m=>∃ j x G k,q = .bad j∧l[j]?=some x∧ch=Ps.wrong x.at_∧F.le G∧MemFits m [hpB G,Ps.pB b v l.length k]) ?_ (fun r m' ⟨p,j,G,u,h1,h2,h3,h4,h5,h6,h7⟩=>⟨_,_,h6.symm,h7,p,j,G,u,h1,h2,h3,h4,h5,rfl,rfl⟩) (fun ch m' ⟨j,x,G,k,h1,h2,h3,h4,h5⟩=>⟨_,h5,j,x,G,k,h1,h2,h3,h4,rfl⟩)
  unfold Ps.pB at cp ⊢
  refine ncallx_of Tryd.func31 rfl (by decide) ?_
  (repeat' (first|(with_reducible first|(refine hK _ _ ?_;clear hP hK Kp K)|(refine hP _ _ ?_;clear hP hK Kp K))|(with_reducible (refine hK _ ?_;clear hK K))|((with_reducible refine gOX ?_);(first|((with_reducible refine st_opX ?_);intro K Kp hK hP;(conv=>whnf))|(with_reducible refine st_nilX ?_)))|((first|((with_reducible refine gH ?_);((with_reducible refine NH.mk ?s ?_);case s=>(and_intros<;>first|with_reducible rfl|((with_reducible refine gOnes ?_);rfl)|((with_reducible refine gLen ?_);rfl))))|((with_reducible refine gCX ?_);((with_reducible refine NCallX.isF 32 ?_);refine NCallX.subw [0,1] _ _ (cp) rfl (by decide) rfl ?_ ?_;((rintro _ _ ⟨p,j,G,u,h1,h2,h3,h4,h5,rfl,rfl⟩)<;>refine ⟨Nat.le_of_ble_eq_true rfl,_,rfl,?_⟩);rotate_right;((rintro _ _ ⟨j,x,G,k,h1,h2,rfl,h4,rfl⟩)<;>refine ⟨Nat.le_of_ble_eq_true rfl,?_⟩))))<;>(conv=>whnf))|((with_reducible refine gXX ?_);((with_reducible first|refine st_seqX ?_|refine st_regionX ?_|refine st_retX ?_)))|(with_reducible first|refine st_thenX ?_|refine st_thenX_panic ?_)|((with_reducible refine gRX ?_);(first|((refine st_retX_ret rfl ?_);intro K hK;(conv=>whnf))|(with_reducible refine st_retX_panic ?_)))|((with_reducible refine gFX ?_);((refine st_funcX rfl ?_);intro K hK;(conv=>whnf)))|((intro _;skip)<;>(conv=>whnf))))
  · exact ⟨j,x,G,k,h1,h2,rfl,h4,MemFits.pre 2 rfl⟩
  · exact ⟨p,j,G,u,h1,h2,h3,h4,h5,rfl,MemFits.pre 2 rfl⟩
theorem parse26_c (tx:List UInt8) (hs:tx.length≤4000) (L:List (Lx.B × List UInt8)) (hL:Lx.toks tx=some L) (hl:L.length≤500) (F:Heap) :
    NCall Tryd.prog 11 [.str tx] [hpB F] fun r m =>
      (∃ x G u,Ps.whole ((Lx.res tx L).map Lx.b) (Ps.cond ((Lx.res tx L).map Lx.b) (Ps.part ((Lx.res tx L).map Lx.b) ((Lx.res tx L).map Lx.b).length) 0) = .ok x 0∧F.le G∧Pd.Row G u x.l∧r = .tup [.agg (Pd.cs x u),.int .i64 0,.int .i64 0]∧m=[hpB G]) ∨
      (∃ j y G,Ps.whole ((Lx.res tx L).map Lx.b) (Ps.cond ((Lx.res tx L).map Lx.b) (Ps.part ((Lx.res tx L).map Lx.b) ((Lx.res tx L).map Lx.b).length) 0) = .bad j∧(Lx.res tx L)[j]?=some y∧F.le G∧r = .tup [.agg [.int .i64 0,.int .i64 0,.int .i64 0,.raw (.slice none 0 0)],.int .i64 y.at_,.int .i64 10]∧m=[hpB G]):=by
  have h0:0<(Lx.res tx L).length:=by simp [Lx.res]
  have cw:=whole26_c 31 tx hs L hL hl _ (fun v=>one26_c v _ _ (cond29_c v _ (Ps.good_res hl) h0)) F
  refine NCall.fits (K:=fun r m=>(∃ x G u,Ps.whole ((Lx.res tx L).map Lx.b) (Ps.cond ((Lx.res tx L).map Lx.b) (Ps.part ((Lx.res tx L).map Lx.b) ((Lx.res tx L).map Lx.b).length) 0) = .ok x 0∧F.le G∧Pd.Row G u x.l∧r.den=(AV.tup [.agg (Pd.cs x u),.int .i64 0,.int .i64 0]).den∧MemFits m [hpB G]) ∨
      (∃ j y G,Ps.whole ((Lx.res tx L).map Lx.b) (Ps.cond ((Lx.res tx L).map Lx.b) (Ps.part ((Lx.res tx L).map Lx.b) ((Lx.res tx L).map Lx.b).length) 0) = .bad j∧(Lx.res tx L)[j]?=some y∧F.le G∧r.den=(AV.tup [.agg [.int .i64 0,.int .i64 0,.int .i64 0,.raw (.slice none 0 0)],.int .i64 y.at_,.int .i64 10]).den∧MemFits m [hpB G])) ?_ fun r m' hq=>?_
  rotate_left
  · rcases hq with ⟨x,G,u,h1,h2,h3,h4,h5⟩ | ⟨j,y,G,h1,h2,h3,h4,h5⟩
    · exact ⟨_,_,h4.symm,h5,.inl ⟨x,G,u,h1,h2,h3,rfl,rfl⟩⟩
    · exact ⟨_,_,h4.symm,h5,.inr ⟨j,y,G,h1,h2,h3,rfl,rfl⟩⟩
  generalize Ps.whole ((Lx.res tx L).map Lx.b) (Ps.cond ((Lx.res tx L).map Lx.b) (Ps.part ((Lx.res tx L).map Lx.b) ((Lx.res tx L).map Lx.b).length) 0)=q at *
  refine ncall_of Tryd.func11 rfl (by decide) ?_
  rcases q with ⟨x,i⟩ | j
  · have cw1:NCall Tryd.prog 30 [.str tx,.fn 31 [] []] [hpB F] fun r m=>∃ G u,i=0∧F.le G∧Pd.Row G u x.l∧r = .tup [.agg (Pd.cs x u),.int .i64 0,.int .i64 0]∧m=[hpB G]:=cw.mono fun r m h=>by
      rcases h with ⟨x',G,u,h1,h2,h3,h4,h5⟩ | ⟨j,y,G,h1,_⟩
      · cases h1
        exact ⟨G,u,rfl,h2,h3,h4,h5⟩
      · cases h1
    (repeat' (first|(with_reducible first|(refine hK _ _ ?_;clear hK K)|(refine hK _ ?_;clear hK K))|((with_reducible refine z25 ?_);intro K hK;(conv=>whnf))|(with_reducible refine z0 ?_)|((first|((with_reducible refine NH.mk ?s ?_);case s=>(and_intros<;>first|with_reducible rfl|((with_reducible refine gOnes ?_);rfl)|((with_reducible refine gLen ?_);rfl)))|((with_reducible refine NCall.isF 30 ?_);refine NCall.subw [0] _ _ (cw1) rfl (by decide) rfl ?_;rintro _ _ ⟨G,u,h1,h2,h3,rfl,rfl⟩;refine ⟨Nat.le_of_ble_eq_true rfl,_,rfl,?_⟩))<;>(conv=>whnf))|(with_reducible first|refine z3 ?_|refine z4 ?_|refine z8 ?_|refine z1 ?_|refine z2 ?_)|((with_reducible refine gR ?_);(refine z31 rfl ?_;intro K hK;(conv=>whnf)))|((with_reducible refine gF ?_);(refine z33 rfl ?_;intro K hK;(conv=>whnf)))|((intro _;skip)<;>(conv=>whnf))))
    all_goals exact .inl ⟨x,G,u,by rw [h1],h2,h3,rfl,MemFits.pre 1 rfl⟩
  · have cw1:NCall Tryd.prog 30 [.str tx,.fn 31 [] []] [hpB F] fun r m=>∃ y G,(Lx.res tx L)[j]?=some y∧F.le G∧r = .tup [.agg [.int .i64 0,.int .i64 0,.int .i64 0,.raw (.slice none 0 0)],.int .i64 y.at_,.int .i64 10]∧m=[hpB G]:=cw.mono fun r m h=>by
      rcases h with ⟨x',G,u,h1,_⟩ | ⟨j,y,G,h1,h2,h3,h4,h5⟩
      · cases h1
      · cases h1
        exact ⟨y,G,h2,h3,h4,h5⟩
    (repeat' (first|(with_reducible first|(refine hK _ _ ?_;clear hK K)|(refine hK _ ?_;clear hK K))|((with_reducible refine z25 ?_);intro K hK;(conv=>whnf))|(with_reducible refine z0 ?_)|((first|((with_reducible refine NH.mk ?s ?_);case s=>(and_intros<;>first|with_reducible rfl|((with_reducible refine gOnes ?_);rfl)|((with_reducible refine gLen ?_);rfl)))|((with_reducible refine NCall.isF 30 ?_);refine NCall.subw [0] _ _ (cw1) rfl (by decide) rfl ?_;rintro _ _ ⟨y,G,h2,h3,rfl,rfl⟩;refine ⟨Nat.le_of_ble_eq_true rfl,_,rfl,?_⟩))<;>(conv=>whnf))|(with_reducible first|refine z3 ?_|refine z4 ?_|refine z8 ?_|refine z1 ?_|refine z2 ?_)|((with_reducible refine gR ?_);(refine z31 rfl ?_;intro K hK;(conv=>whnf)))|((with_reducible refine gF ?_);(refine z33 rfl ?_;intro K hK;(conv=>whnf)))|((intro _;skip)<;>(conv=>whnf))))
    all_goals exact .inr ⟨j,y,G,rfl,h2,h3,rfl,MemFits.pre 1 rfl⟩
end Go.Proofs.YtaojbkphcnailaaDoor
namespace Go.Proofs.YtaojbkphcnailaaDoor
open Go.Sx
def TabF (F:Heap):Prop:=∃ t fr,F.o 0 (.cells (Lib.pow10Tab.map fun z=>Value.int .u64 z).toArray t fr)
theorem TabF.mono {F G:Heap} (h:F.le G) (hF:TabF F):TabF G:=by
  obtain ⟨t,fr,h1⟩:=hF
  exact ⟨t,fr,h.o _ _ h1⟩
theorem MemOk.heapO {F:Heap} {w:World} (h:MemOk [hpB F] w) {b:Nat} {o:Obj} (ho:F.o b o):w.heap[b]?=some o :=
  (h.holds (hpB F) (by simp)).2.2 b o ho
theorem tab_is {F : Heap} (hF : TabF F) {w : World} (h : MemOk [hpB F] w) : Lib.TabIs Tryd.prog w "internal/strconv.uint64pow10" .u64 Lib.pow10Tab := by
  obtain ⟨t,fr,h1⟩:=hF
  have h2:=MemOk.heapO h h1
  have hg : Tryd.prog.globalNamed "internal/strconv.uint64pow10" = some 0 := by kernel_rfl
  unfold Lib.TabIs World.var?
  rw [hg]
  simp only [Option.bind_some,h2]
theorem itoa_c (F:Heap) (hF:TabF F) (n:Int) (hn : -9223372036854775808≤n∧n≤9223372036854775807):NCall Tryd.prog 42 [.int .i64 n] [hpB F] fun r m=>r = .str (Lib.itoa n)∧m=[hpB F]:=by
  refine ncall_below (Go.Sx.enters_of Tryd.func42 rfl (by decide)) fun w hw=>?_
  refine (Tryd.strconv_Itoa n hn.1 hn.2 w (tab_is hF hw)).mono fun e w' ⟨h1,k,os,h2⟩=>?_
  subst h2
  refine ⟨h1,rfl,rfl,rfl,by simp [Sort.grow,World.drewN],fun b hb=>?_⟩
  simp [Sort.grow,World.drewN,Array.getElem?_append_left hb]
def strV (x:List UInt8):List Value:=[.string ⟨x.toArray⟩]
theorem join_c (F:Heap) (v:Value) (l:List (List UInt8)) (sep:List UInt8) (hv:RowF F 1 (fun x vs=>vs=strV x) v l) (hl:(Lib.join l sep).length≤140737488355328) (hn:l.length≤140737488355328) :
    NCall Tryd.prog 43 [.hs v l.length,.str sep] [hpB F] fun r m=>r = .str (Lib.join l sep)∧m=[hpB F]:=by
  have hen:∀ (us:Array Value) (w:World),(callFunc 43 us).run Tryd.prog w = .ok (.enter 43 us) w:=Go.Sx.enters_of Tryd.func43 rfl (by decide)
  obtain ⟨⟨A,cap,rfl,hcap,hA⟩,hat⟩:=hv
  cases l with
  | nil =>
    refine ncall_below hen fun w hw=>?_
    refine (Tryd.strings_Join_none A cap ⟨sep.toArray⟩ w).mono fun e w' ⟨h1,h2⟩=>?_
    subst h2
    exact ⟨h1,rfl,rfl,rfl,Nat.le_refl _,fun _ _=>rfl⟩
  | cons x l =>
    refine ncall_below hen fun w hw=>?_
    have hc:∀ a u,F.c a u→a.block<w.heap.size∧w.cell? a=some u:=(hw.holds (hpB F) (by simp)).2.1
    cases A with
    | none=>have:=hA rfl;simp at hcap;omega
    | some a =>
      obtain ⟨vs,rfl,_,h0⟩:=hat 0 x rfl
      have h00:=hc _ _ h0.1
      have hsp:a.spot=none:=by
        have h1:=World.cell?_spot h00.2
        simpa [addrOf,Addr.add] using h1
      obtain ⟨bk,o,sp⟩:=a
      dsimp only at hsp
      subst hsp
      have hm:((x::l).map fun y=>(⟨y.toArray⟩:ByteArray)).map (·.data.toList)=x::l:=by simp [Function.comp_def]
      have hj:=Tryd.strings_Join bk o cap ((x::l).map fun y=>⟨y.toArray⟩) ⟨sep.toArray⟩ w (fun j y hy=>by
        rw [List.getElem?_map] at hy
        cases hx:(x::l)[j]? with
        | none=>rw [hx] at hy;cases hy
        | some z =>
          rw [hx] at hy
          injection hy with hy
          subst hy
          obtain ⟨vs,rfl,_,h1⟩:=hat j z hx
          have:=(hc _ _ h1.1).2
          by_cases hj0:j=0
          · subst hj0;simpa [addrOf,Addr.add] using this
          · simpa [addrOf,Addr.add,hj0] using this) (by have:=h00.1;rw [block_of_add] at this;exact this) (by simpa using hn) (by simpa using hcap) (by rw [hm];simpa using hl)
      rw [hm] at hj
      simp only [List.length_map] at hj
      refine hj.mono fun e w' ⟨h1,h2⟩=>?_
      exact ⟨by simpa [AV.den] using h1,h2.os,h2.tape,h2.output,h2.size,h2.block⟩
def strAV (l:List (List UInt8)):List AV:=l.map .str
theorem strAV_den (l:List (List UInt8)):denL (strAV l)=l.flatMap strV:=by
  induction l with
  | nil=>rfl
  | cons x l ih=>simp only [strAV,List.map_cons,List.flatMap_cons,strV,denL,AV.den] at *;rw [ih];rfl
theorem strAV_len (l:List (List UInt8)):(strAV l).length=l.length:=by simp [strAV]
theorem join_own (F:Heap) (v:Value) (l:List (List UInt8)) (sep:List UInt8) (t:TypeId) (m:List Blk) (hm:MemFits m [hpB F,⟨addrOf v,strAV l,.row v t 1 l.length⟩]) (hl:(Lib.join l sep).length≤140737488355328) (hn:l.length≤140737488355328) (i:Nat) :
    NCall Tryd.prog 43 [.sl i v l.length,.str sep] m fun r m'=>r = .str (Lib.join l sep)∧m'=m :=
  NCall.frozen (args':=[.hs v l.length,.str sep]) strV (join_c noHeap (.slice none 0 0) [] [] RowF.nil (by decide) (by decide)) rfl hm rfl (strAV_den l) (fun _ _=>rfl) fun G _ hr =>
    (join_c G v l sep hr hl hn).mono fun _ _ h=>⟨h.1,rfl⟩
end Go.Proofs.YtaojbkphcnailaaDoor
