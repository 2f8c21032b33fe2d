import Derived.Test.YtaojbkphcnailaaDoorJ25
import Derived.Test.YtaojbkphcnailaaDoorJ7
namespace Go.Sx
theorem NCallD.fits {P:Program} {g:FuncId} {args:List AV} {m:List Blk} {u:FrameMode} {K K':FrameMode→List Blk→Prop} (h:NCallD P g args m u K) (hk:∀ u' m',K u' m'→∃ m'',MemFits m' m''∧K' u' m''):NCallD P g args m u K':=by
  unfold NCallD at h ⊢
  refine ⟨h.1,fun w hm=>(h.2 w hm).mono fun e u' w' hq=>?_⟩
  obtain ⟨m',h1,rfl,h3,h4,h5⟩:=hq
  obtain ⟨m'',h6,h7⟩:=hk u' m' h1
  exact ⟨m'',h7,rfl,(h6 w' h3).1,h4,fun b hb=>h5.1 b ((h6 w' h3).2.1 b hb),fun b hb=>h5.2 b ((h6 w' h3).2.2 b hb)⟩
end Go.Sx
namespace Go.Proofs.YtaojbkphcnailaaDoor
open Go.Sx
set_option maxRecDepth 20000
set_option linter.unusedSimpArgs false
set_option linter.unusedVariables false
set_option maxHeartbeats 4000000
set_option linter.unusedVariables false
theorem Ps.good_res {tx:List UInt8} {L:List (Lx.B × List UInt8)} (hl:L.length≤500):Ps.Good (Lx.res tx L):=by
  have hlen:(Lx.res tx L).length=L.length+1:=by simp [Lx.res]
  refine ⟨by omega,fun i x hx hk=>?_⟩
  have hi:=(List.getElem?_eq_some_iff.1 hx).1
  rcases Nat.lt_or_ge i L.length with h | h
  · omega
  · obtain rfl:i=L.length:=by omega
    unfold Lx.res at hx
    rw [List.getElem?_append_right (by simp),List.length_map,Nat.sub_self] at hx
    injection hx with hx
    subst hx
    exact (hk rfl).elim
theorem whole27_c (g:FuncId) (tx:List UInt8) (hs:tx.length≤4000) (L:List (Lx.B × List UInt8)) (hL:Lx.toks tx=some L) (hl:L.length≤500) (q:Ps.R Po.T) (hg:∀ v,Ps.P27 v (Lx.res tx L) g q 0) (F:Heap) :
    NCall Tryd.prog 25 [.str tx,.fn g [] []] [hpB F] fun r m =>
      (∃ x G pu u,Ps.whole ((Lx.res tx L).map Lx.b) q = .ok x 0∧F.le G∧Po.At G x pu u∧r = .tup [.agg (Po.cs x pu u),.int .i64 0,.int .i64 0]∧m=[hpB G]) ∨
      (∃ j y G,Ps.whole ((Lx.res tx L).map Lx.b) q = .bad j∧(Lx.res tx L)[j]?=some y∧F.le G∧r = .tup [.agg [.int .i64 0,.int .i64 0,.int .i64 0,.int .i64 0,.raw (.slice none 0 0),.int .i64 0,.int .i64 0,.raw (.slice none 0 0)],.int .i64 y.at_,.int .i64 10]∧m=[hpB G]):=by
  refine NCall.fits (K:=fun r m=>(∃ x G pu u,Ps.whole ((Lx.res tx L).map Lx.b) q = .ok x 0∧F.le G∧Po.At G x pu u∧r.den=(AV.tup [.agg (Po.cs x pu u),.int .i64 0,.int .i64 0]).den∧MemFits m [hpB G]) ∨
      (∃ j y G,Ps.whole ((Lx.res tx L).map Lx.b) q = .bad j∧(Lx.res tx L)[j]?=some y∧F.le G∧r.den=(AV.tup [.agg [.int .i64 0,.int .i64 0,.int .i64 0,.int .i64 0,.raw (.slice none 0 0),.int .i64 0,.int .i64 0,.raw (.slice none 0 0)],.int .i64 y.at_,.int .i64 10]).den∧MemFits m [hpB G])) ?_ fun r m' hq=>?_
  rotate_left
  · rcases hq with ⟨x,G,pu,u,h1,h2,h3,h4,h5⟩ | ⟨j,y,G,h1,h2,h3,h4,h5⟩
    · exact ⟨_,_,h4.symm,h5,.inl ⟨x,G,pu,u,h1,h2,h3,rfl,rfl⟩⟩
    · exact ⟨_,_,h4.symm,h5,.inr ⟨j,y,G,h1,h2,h3,rfl,rfl⟩⟩
  have hgood:=Ps.good_res (tx:=tx) hl
  have hlen:(Lx.res tx L).length=L.length+1:=by simp [Lx.res]
  have clex:=lex_good F tx hs L hL hl
  generalize Lx.res tx L=l at *
  have hn:=hgood.few
  refine ncall_deferred Tryd.func25 rfl (by decide) (fun K hK=>?_)
  conv=>whnf
  refine hK _ ?_
  clear hK K
  refine ny_seq (ny_X ?_)
  (repeat' (first|(with_reducible (refine hK _ _ ?_;clear hP hK Kp K))|((with_reducible refine st_opX ?_);intro K Kp hK hP;(conv=>whnf))|(with_reducible first|refine st_nilX ?_|refine st_regionX ?_)|((intro _;skip)<;>(conv=>whnf))))
  refine ny_seq (ny_X ?_)
  (repeat' (first|(with_reducible (refine hK _ _ ?_;clear hP hK Kp K))|((with_reducible refine st_opX ?_);intro K Kp hK hP;(conv=>whnf))|(with_reducible refine st_nilX ?_)|((first|((with_reducible refine NH.mk ?s ?_);case s=>(and_intros<;>first|with_reducible rfl|((with_reducible refine gOnes ?_);rfl)|((with_reducible refine gLen ?_);rfl)))|((with_reducible refine gCX ?_);(refine NCallX.of ?_;((with_reducible refine NCall.isF 55 ?_);refine NCall.subw [0] _ _ (clex) rfl (by decide) rfl ?_;rintro _ _ ⟨F',v,hle,rfl,rfl,hrow⟩;refine ⟨Nat.le_of_ble_eq_true rfl,_,rfl,?_⟩))))<;>(conv=>whnf))|(with_reducible refine st_regionX ?_)))
  have hv2:Ps.Toks F' v l:=hrow
  have hok:=hv2.ok
  refine ny_seq (ny_X ?_)
  (repeat' (first|(with_reducible first|(refine hK _ _ ?_;clear hP hK Kp K)|(refine hB ?_;clear hA hB A B))|((with_reducible refine st_opX ?_);intro K Kp hK hP;(conv=>whnf))|(with_reducible refine st_nilX ?_)|((first|((with_reducible refine NIf.no ?s ?_);case s=>(simp ;done))|((with_reducible refine NH.mk ?s ?_);case s=>(and_intros<;>with_reducible rfl)))<;>(conv=>whnf))|(with_reducible first|refine st_seqX ?_|refine st_regionX ?_|refine st_skipX ?_)|((with_reducible refine st_condX ?_);intro A B hA hB;(conv=>whnf))|(with_reducible refine st_thenX ?_)))
  refine ny_seq (ny_defer ?_)
  conv=>whnf
  refine ny_X ?_
  have cg:=fun b=>hg v F' b hv2
  have cn:=fun G (h:F'.le G) b j (hj:j<l.length)=>now29_c G v l (Ps.Toks.mono h hv2) hn b (List.getElem?_eq_getElem hj)
  have cf:=fun G (h:F'.le G) b j (hj:j<l.length)=>fail29_c G v l (Ps.Toks.mono h hv2) hn b (List.getElem?_eq_getElem hj)
  unfold Ps.pB at cg cn cf
  have cp:=fun b4 b5 b6 x0 x1 x2 x3 x4 x5 x6 x7 a e at_=>(closure27_p b4 b5 b6 x0 x1 x2 x3 x4 x5 x6 x7 a e at_).fits (K':=fun u' m'=>settle u' = .returning∧m'=[⟨⟨b4,0,none⟩,[.int .i64 0,.int .i64 0,.int .i64 0,.int .i64 0,.raw (.slice none 0 0),.int .i64 0,.int .i64 0,.raw (.slice none 0 0)],.var 28⟩,⟨⟨b5,0,none⟩,[.int .i64 at_],.var 3⟩,⟨⟨b6,0,none⟩,[.int .i64 10],.var 29⟩]) fun u' m' ⟨h1,m2,h2⟩=>⟨_,by rw [h2];exact MemFits.pre 3 rfl,h1,rfl⟩
  (repeat' (first|(with_reducible first|(refine hK _ _ ?_;clear hP hK Kp K)|(refine hP _ _ ?_;clear hP hK Kp K))|(with_reducible first|(refine hA ?_;clear hA hB A B)|(refine hB ?_;clear hA hB A B))|((with_reducible refine gOX ?_);(first|((with_reducible refine st_opX ?_);intro K Kp hK hP;(conv=>whnf))|(with_reducible refine st_nilX ?_)))|((first|((with_reducible refine gI ?_);(first|with_reducible refine NIf.not_ ?_|(with_reducible refine NIf.dec (fun _=>?_) (fun _=>?_))))|((with_reducible refine gH ?_);((with_reducible refine NH.mk ?s ?_);case s=>(and_intros<;>first|with_reducible rfl|((with_reducible refine gOnes ?_);rfl)|((with_reducible refine gLen ?_);rfl))))|((with_reducible refine gCX ?_);(first|((with_reducible refine NCallX.isF g ?_);refine NCallX.subw [0,4] _ _ (cg _) rfl (by decide) rfl ?_ ?_;((rintro _ _ ⟨x,j,G,pu,u,h1,h2,h3,h4,h5,rfl,rfl⟩)<;>refine ⟨Nat.le_of_ble_eq_true rfl,_,rfl,?_⟩);rotate_right;((rintro _ _ ⟨j,y,G,k,h1,h2,rfl,h4,rfl⟩)<;>refine ⟨Nat.le_of_ble_eq_true rfl,?_⟩))|((with_reducible refine NCallX.isF 58 ?_);refine NCallX.subw [0,4] _ _ (cf G h4 _ j h3) rfl (by decide) rfl ?_ ?_;((rintro _ _ ⟨⟩)<;>refine ⟨Nat.le_of_ble_eq_true rfl,_,rfl,?_⟩);rotate_right;((rintro _ _ ⟨rfl,rfl⟩)<;>refine ⟨Nat.le_of_ble_eq_true rfl,?_⟩))|(refine NCallX.of ?_;(((with_reducible refine NCall.isF 57 ?_);refine NCall.subE [0,4] (cn G h4 _ j h3) rfl (by decide) rfl rfl ?_))))))<;>(conv=>whnf))|((with_reducible refine gXX ?_);(first|(with_reducible first|refine st_seqX ?_|refine st_regionX ?_|refine st_skipX ?_|refine st_retX ?_)|((with_reducible refine st_condX ?_);intro A B hA hB;(conv=>whnf))))|(with_reducible first|refine st_thenX ?_|refine st_thenX_panic ?_)|((intro _;skip)<;>(conv=>whnf))))
  · rename_i b4 b5 b6 b7
    refine nend_one (by intro h;cases h) rfl (NCallD.subw [1,2,3] [.ptr 0 ⟨b4,0,none⟩ 0,.ptr 1 ⟨b5,0,none⟩ 0,.ptr 2 ⟨b6,0,none⟩ 0] _ (cp b4 b5 b6 _ _ _ _ _ _ _ _ _ _ _) rfl (by decide) rfl fun u' bs g=>?_)
    obtain ⟨g1,rfl⟩:=g
    refine ⟨Nat.le_of_ble_eq_true rfl,?_⟩
    conv=>whnf
    refine ⟨g1,?_⟩
    conv=>whnf
    (repeat' (((((with_reducible refine gH ?_);((with_reducible refine NH.mk ?s ?_);case s=>(and_intros<;>with_reducible rfl))))<;>(conv=>whnf))))
    all_goals exact .inr ⟨j,y,G,by rw [h1];rfl,h2,hle.trans h4,rfl,MemFits.pre 1 rfl⟩
  · rename_i b4 b5 b6 b7 hk
    refine nend_one (by intro h;cases h) rfl (NCallD.subw [1,2,3] [.ptr 0 ⟨b4,0,none⟩ 0,.ptr 1 ⟨b5,0,none⟩ 0,.ptr 2 ⟨b6,0,none⟩ 0] _ (closure27_r b4 b5 b6 _ _ _ _ _ _ _ _ _ _) rfl (by decide) rfl fun u' bs g=>?_)
    obtain ⟨g1,rfl⟩:=g
    refine ⟨Nat.le_of_ble_eq_true rfl,?_⟩
    conv=>whnf
    refine ⟨g1,?_⟩
    conv=>whnf
    (repeat' (((((with_reducible refine gH ?_);((with_reducible refine NH.mk ?s ?_);case s=>(and_intros<;>with_reducible rfl))))<;>(conv=>whnf))))
    all_goals exact .inl ⟨x,G,pu,u,by rw [h1];exact if_pos (by rw [Ps.tk_b (List.getElem?_eq_getElem h3)];exact hk),hle.trans h4,h5,rfl,MemFits.pre 1 rfl⟩
  · rename_i b4 b5 b6 b7 hk
    refine nend_one (by intro h;cases h) rfl (NCallD.subw [1,2,3] [.ptr 0 ⟨b4,0,none⟩ 0,.ptr 1 ⟨b5,0,none⟩ 0,.ptr 2 ⟨b6,0,none⟩ 0] _ (cp b4 b5 b6 _ _ _ _ _ _ _ _ _ _ _) rfl (by decide) rfl fun u' bs g=>?_)
    obtain ⟨g1,rfl⟩:=g
    refine ⟨Nat.le_of_ble_eq_true rfl,?_⟩
    conv=>whnf
    refine ⟨g1,?_⟩
    conv=>whnf
    (repeat' (((((with_reducible refine gH ?_);((with_reducible refine NH.mk ?s ?_);case s=>(and_intros<;>with_reducible rfl))))<;>(conv=>whnf))))
    all_goals exact .inr ⟨j,_,G,by rw [h1];exact if_neg (by rw [Ps.tk_b (List.getElem?_eq_getElem h3)];exact hk),List.getElem?_eq_getElem h3,hle.trans h4,rfl,MemFits.pre 1 rfl⟩
theorem whole26_c (g:FuncId) (tx:List UInt8) (hs:tx.length≤4000) (L:List (Lx.B × List UInt8)) (hL:Lx.toks tx=some L) (hl:L.length≤500) (q:Ps.R Pd.T) (hg:∀ v,Ps.P26 v (Lx.res tx L) g q 0) (F:Heap) :
    NCall Tryd.prog 30 [.str tx,.fn g [] []] [hpB F] fun r m =>
      (∃ x G u,Ps.whole ((Lx.res tx L).map Lx.b) q = .ok x 0∧F.le G∧Pd.Row G u x.l∧r = .tup [.agg (Pd.cs x u),.int .i64 0,.int .i64 0]∧m=[hpB G]) ∨
      (∃ j y G,Ps.whole ((Lx.res tx L).map Lx.b) q = .bad j∧(Lx.res tx L)[j]?=some y∧F.le G∧r = .tup [.agg [.int .i64 0,.int .i64 0,.int .i64 0,.raw (.slice none 0 0)],.int .i64 y.at_,.int .i64 10]∧m=[hpB G]):=by
  refine NCall.fits (K:=fun r m=>(∃ x G u,Ps.whole ((Lx.res tx L).map Lx.b) q = .ok x 0∧F.le G∧Pd.Row G u x.l∧r.den=(AV.tup [.agg (Pd.cs x u),.int .i64 0,.int .i64 0]).den∧MemFits m [hpB G]) ∨
      (∃ j y G,Ps.whole ((Lx.res tx L).map Lx.b) q = .bad j∧(Lx.res tx L)[j]?=some y∧F.le G∧r.den=(AV.tup [.agg [.int .i64 0,.int .i64 0,.int .i64 0,.raw (.slice none 0 0)],.int .i64 y.at_,.int .i64 10]).den∧MemFits m [hpB G])) ?_ fun r m' hq=>?_
  rotate_left
  · rcases hq with ⟨x,G,u,h1,h2,h3,h4,h5⟩ | ⟨j,y,G,h1,h2,h3,h4,h5⟩
    · exact ⟨_,_,h4.symm,h5,.inl ⟨x,G,u,h1,h2,h3,rfl,rfl⟩⟩
    · exact ⟨_,_,h4.symm,h5,.inr ⟨j,y,G,h1,h2,h3,rfl,rfl⟩⟩
  have hgood:=Ps.good_res (tx:=tx) hl
  have hlen:(Lx.res tx L).length=L.length+1:=by simp [Lx.res]
  have clex:=lex_good F tx hs L hL hl
  generalize Lx.res tx L=l at *
  have hn:=hgood.few
  refine ncall_deferred Tryd.func30 rfl (by decide) (fun K hK=>?_)
  conv=>whnf
  refine hK _ ?_
  clear hK K
  refine ny_seq (ny_X ?_)
  (repeat' (first|(with_reducible (refine hK _ _ ?_;clear hP hK Kp K))|((with_reducible refine st_opX ?_);intro K Kp hK hP;(conv=>whnf))|(with_reducible first|refine st_nilX ?_|refine st_regionX ?_)|((intro _;skip)<;>(conv=>whnf))))
  refine ny_seq (ny_X ?_)
  (repeat' (first|(with_reducible (refine hK _ _ ?_;clear hP hK Kp K))|((with_reducible refine st_opX ?_);intro K Kp hK hP;(conv=>whnf))|(with_reducible refine st_nilX ?_)|((first|((with_reducible refine NH.mk ?s ?_);case s=>(and_intros<;>first|with_reducible rfl|((with_reducible refine gOnes ?_);rfl)|((with_reducible refine gLen ?_);rfl)))|((with_reducible refine gCX ?_);(refine NCallX.of ?_;((with_reducible refine NCall.isF 55 ?_);refine NCall.subw [0] _ _ (clex) rfl (by decide) rfl ?_;rintro _ _ ⟨F',v,hle,rfl,rfl,hrow⟩;refine ⟨Nat.le_of_ble_eq_true rfl,_,rfl,?_⟩))))<;>(conv=>whnf))|(with_reducible refine st_regionX ?_)))
  have hv2:Ps.Toks F' v l:=hrow
  have hok:=hv2.ok
  refine ny_seq (ny_X ?_)
  (repeat' (first|(with_reducible first|(refine hK _ _ ?_;clear hP hK Kp K)|(refine hB ?_;clear hA hB A B))|((with_reducible refine st_opX ?_);intro K Kp hK hP;(conv=>whnf))|(with_reducible refine st_nilX ?_)|((first|((with_reducible refine NIf.no ?s ?_);case s=>(simp ;done))|((with_reducible refine NH.mk ?s ?_);case s=>(and_intros<;>with_reducible rfl)))<;>(conv=>whnf))|(with_reducible first|refine st_seqX ?_|refine st_regionX ?_|refine st_skipX ?_)|((with_reducible refine st_condX ?_);intro A B hA hB;(conv=>whnf))|(with_reducible refine st_thenX ?_)))
  refine ny_seq (ny_defer ?_)
  conv=>whnf
  refine ny_X ?_
  have cg:=fun b=>hg v F' b hv2
  have cn:=fun G (h:F'.le G) b j (hj:j<l.length)=>now29_c G v l (Ps.Toks.mono h hv2) hn b (List.getElem?_eq_getElem hj)
  have cf:=fun G (h:F'.le G) b j (hj:j<l.length)=>fail29_c G v l (Ps.Toks.mono h hv2) hn b (List.getElem?_eq_getElem hj)
  unfold Ps.pB at cg cn cf
  have cp:=fun b4 b5 b6 x0 x1 x2 x3 a e at_=>(closure26_p b4 b5 b6 x0 x1 x2 x3 a e at_).fits (K':=fun u' m'=>settle u' = .returning∧m'=[⟨⟨b4,0,none⟩,[.int .i64 0,.int .i64 0,.int .i64 0,.raw (.slice none 0 0)],.var 25⟩,⟨⟨b5,0,none⟩,[.int .i64 at_],.var 3⟩,⟨⟨b6,0,none⟩,[.int .i64 10],.var 29⟩]) fun u' m' ⟨h1,m2,h2⟩=>⟨_,by rw [h2];exact MemFits.pre 3 rfl,h1,rfl⟩
  (repeat' (first|(with_reducible first|(refine hK _ _ ?_;clear hP hK Kp K)|(refine hP _ _ ?_;clear hP hK Kp K))|(with_reducible first|(refine hA ?_;clear hA hB A B)|(refine hB ?_;clear hA hB A B))|((with_reducible refine gOX ?_);(first|((with_reducible refine st_opX ?_);intro K Kp hK hP;(conv=>whnf))|(with_reducible refine st_nilX ?_)))|((first|((with_reducible refine gI ?_);(first|with_reducible refine NIf.not_ ?_|(with_reducible refine NIf.dec (fun _=>?_) (fun _=>?_))))|((with_reducible refine gH ?_);((with_reducible refine NH.mk ?s ?_);case s=>(and_intros<;>first|with_reducible rfl|((with_reducible refine gOnes ?_);rfl)|((with_reducible refine gLen ?_);rfl))))|((with_reducible refine gCX ?_);(first|((with_reducible refine NCallX.isF g ?_);refine NCallX.subw [0,4] _ _ (cg _) rfl (by decide) rfl ?_ ?_;((rintro _ _ ⟨x,j,G,u,h1,h2,h3,h4,h5,rfl,rfl⟩)<;>refine ⟨Nat.le_of_ble_eq_true rfl,_,rfl,?_⟩);rotate_right;((rintro _ _ ⟨j,y,G,k,h1,h2,rfl,h4,rfl⟩)<;>refine ⟨Nat.le_of_ble_eq_true rfl,?_⟩))|((with_reducible refine NCallX.isF 58 ?_);refine NCallX.subw [0,4] _ _ (cf G h4 _ j h3) rfl (by decide) rfl ?_ ?_;((rintro _ _ ⟨⟩)<;>refine ⟨Nat.le_of_ble_eq_true rfl,_,rfl,?_⟩);rotate_right;((rintro _ _ ⟨rfl,rfl⟩)<;>refine ⟨Nat.le_of_ble_eq_true rfl,?_⟩))|(refine NCallX.of ?_;(((with_reducible refine NCall.isF 57 ?_);refine NCall.subE [0,4] (cn G h4 _ j h3) rfl (by decide) rfl rfl ?_))))))<;>(conv=>whnf))|((with_reducible refine gXX ?_);(first|(with_reducible first|refine st_seqX ?_|refine st_regionX ?_|refine st_skipX ?_|refine st_retX ?_)|((with_reducible refine st_condX ?_);intro A B hA hB;(conv=>whnf))))|(with_reducible first|refine st_thenX ?_|refine st_thenX_panic ?_)|((intro _;skip)<;>(conv=>whnf))))
  · rename_i b4 b5 b6 b7
    refine nend_one (by intro h;cases h) rfl (NCallD.subw [1,2,3] [.ptr 0 ⟨b4,0,none⟩ 0,.ptr 1 ⟨b5,0,none⟩ 0,.ptr 2 ⟨b6,0,none⟩ 0] _ (cp b4 b5 b6 _ _ _ _ _ _ _) rfl (by decide) rfl fun u' bs g=>?_)
    obtain ⟨g1,rfl⟩:=g
    refine ⟨Nat.le_of_ble_eq_true rfl,?_⟩
    conv=>whnf
    refine ⟨g1,?_⟩
    conv=>whnf
    (repeat' (((((with_reducible refine gH ?_);((with_reducible refine NH.mk ?s ?_);case s=>(and_intros<;>with_reducible rfl))))<;>(conv=>whnf))))
    all_goals exact .inr ⟨j,y,G,by rw [h1];rfl,h2,hle.trans h4,rfl,MemFits.pre 1 rfl⟩
  · rename_i b4 b5 b6 b7 hk
    refine nend_one (by intro h;cases h) rfl (NCallD.subw [1,2,3] [.ptr 0 ⟨b4,0,none⟩ 0,.ptr 1 ⟨b5,0,none⟩ 0,.ptr 2 ⟨b6,0,none⟩ 0] _ (closure26_r b4 b5 b6 _ _ _ _ _ _) rfl (by decide) rfl fun u' bs g=>?_)
    obtain ⟨g1,rfl⟩:=g
    refine ⟨Nat.le_of_ble_eq_true rfl,?_⟩
    conv=>whnf
    refine ⟨g1,?_⟩
    conv=>whnf
    (repeat' (((((with_reducible refine gH ?_);((with_reducible refine NH.mk ?s ?_);case s=>(and_intros<;>with_reducible rfl))))<;>(conv=>whnf))))
    all_goals exact .inl ⟨x,G,u,by rw [h1];exact if_pos (by rw [Ps.tk_b (List.getElem?_eq_getElem h3)];exact hk),hle.trans h4,h5,rfl,MemFits.pre 1 rfl⟩
  · rename_i b4 b5 b6 b7 hk
    refine nend_one (by intro h;cases h) rfl (NCallD.subw [1,2,3] [.ptr 0 ⟨b4,0,none⟩ 0,.ptr 1 ⟨b5,0,none⟩ 0,.ptr 2 ⟨b6,0,none⟩ 0] _ (cp b4 b5 b6 _ _ _ _ _ _ _) rfl (by decide) rfl fun u' bs g=>?_)
    obtain ⟨g1,rfl⟩:=g
    refine ⟨Nat.le_of_ble_eq_true rfl,?_⟩
    conv=>whnf
    refine ⟨g1,?_⟩
    conv=>whnf
    (repeat' (((((with_reducible refine gH ?_);((with_reducible refine NH.mk ?s ?_);case s=>(and_intros<;>with_reducible rfl))))<;>(conv=>whnf))))
    all_goals exact .inr ⟨j,_,G,by rw [h1];exact if_neg (by rw [Ps.tk_b (List.getElem?_eq_getElem h3)];exact hk),List.getElem?_eq_getElem h3,hle.trans h4,rfl,MemFits.pre 1 rfl⟩
end Go.Proofs.YtaojbkphcnailaaDoor
namespace Go.Proofs.YtaojbkphcnailaaDoor
open Go.Sx
set_option maxRecDepth 20000
set_option linter.unusedVariables false
namespace Pd
end Pd
end Go.Proofs.YtaojbkphcnailaaDoor
