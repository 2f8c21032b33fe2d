import Derived.Test.YtgphhbadnjfbjaaDoorSu5
import Derived.Test.YtgphhbadnjfbjaaDoorSxDg
namespace Go.Sx
theorem NCallD.fits {P:Program} {g:FuncId} {args:List AV} {m:List Blk} {u:FrameMode} {K K':FrameMode→List Blk→Prop} (h:NCallD P g args m u K) (hk:∀ u' m',K u' m'→∃ m'',MemFits m' m''∧K' u' m''):NCallD P g args m u K':=by
  unfold NCallD at h ⊢
  refine ⟨h.1,fun w hm=>(h.2 w hm).mono fun e u' w' hq=>?_⟩
  obtain ⟨m',h1,rfl,h3,h4,h5⟩:=hq
  obtain ⟨m'',h6,h7⟩:=hk u' m' h1
  exact ⟨m'',h7,rfl,(h6 w' h3).1,h4,fun b hb=>h5.1 b ((h6 w' h3).2.1 b hb),fun b hb=>h5.2 b ((h6 w' h3).2.2 b hb)⟩
end Go.Sx
namespace Go.Proofs.YtgphhbadnjfbjaaDoor
open Go.Sx
set_option maxRecDepth 20000
set_option linter.unusedSimpArgs false
set_option linter.unusedVariables false
set_option maxHeartbeats 4000000
set_option linter.unusedVariables false
theorem nil40 (G:Heap):Su.At G Su.none40 (.slice none 0 0) (.slice none 0 0) (.slice none 0 0) (.slice none 0 0):=⟨RowF.nil,RowF.nil,⟨[],rfl,RowF.nil,fun p hp=>by cases hp⟩,RowF.nil⟩
theorem closure40_r (b4 b5 b6:Nat) (x0 x1 x2 x3 x4 x5 x6 x7 x8 x9 x10:AV) (a e:Int) :
    NCallD Tryd.prog 15 [.ptr 0 ⟨b4,0,none⟩ 0,.ptr 1 ⟨b5,0,none⟩ 0,.ptr 2 ⟨b6,0,none⟩ 0] [⟨⟨b4,0,none⟩,[x0,x1,x2,x3,x4,x5,x6,x7,x8,x9,x10],.var 29⟩,⟨⟨b5,0,none⟩,[.int .i64 a],.var 3⟩,⟨⟨b6,0,none⟩,[.int .i64 e],.var 32⟩] .returning
      fun u' m'=>settle u' = .returning∧m'=[⟨⟨b4,0,none⟩,[x0,x1,x2,x3,x4,x5,x6,x7,x8,x9,x10],.var 29⟩,⟨⟨b5,0,none⟩,[.int .i64 a],.var 3⟩,⟨⟨b6,0,none⟩,[.int .i64 e],.var 32⟩]:=by
  refine ncallD_by (u':=.returning) (rv:=.raw .nilIface) Tryd.func15 rfl (by decide) rfl (fun c₀ cs hu=>.inr ⟨by simp [recoverD,hu],rfl,rfl⟩) (fun K hK=>?_)
  conv=>whnf
  refine hK _ ?_
  clear hK K
  (repeat' (first|(with_reducible first|(refine hK _ _ ?_;clear hP hK Kp K)|(refine hA ?_;clear hA hB A B))|((with_reducible refine st_opX ?_);intro K Kp hK hP;(conv=>whnf))|(with_reducible refine st_nilX ?_)|(((with_reducible refine NIf.yes ?s ?_);case s=>rfl)<;>(conv=>whnf))|(with_reducible first|refine st_seqX ?_|refine st_regionX ?_|refine st_retX ?_)|((with_reducible refine st_condX ?_);intro A B hA hB;(conv=>whnf))|(with_reducible first|refine st_thenX ?_|refine st_thenX_ret ?_)))
  all_goals exact ⟨.inr rfl,rfl,rfl⟩
theorem closure40_p (b4 b5 b6:Nat) (x0 x1 x2 x3 x4 x5 x6 x7 x8 x9 x10:AV) (a e:Int) (at_:Nat) :
    NCallD Tryd.prog 15 [.ptr 0 ⟨b4,0,none⟩ 0,.ptr 1 ⟨b5,0,none⟩ 0,.ptr 2 ⟨b6,0,none⟩ 0] [⟨⟨b4,0,none⟩,[x0,x1,x2,x3,x4,x5,x6,x7,x8,x9,x10],.var 29⟩,⟨⟨b5,0,none⟩,[.int .i64 a],.var 3⟩,⟨⟨b6,0,none⟩,[.int .i64 e],.var 32⟩] (.panicking (Su.wrong at_))
      fun u' m'=>settle u' = .returning∧∃ m2,m'=[⟨⟨b4,0,none⟩,[.int .i64 0,.raw (.slice none 0 0),.raw (.slice none 0 0),.raw (.slice none 0 0),.raw (.slice none 0 0),.int .i64 0,.int .i64 0,.int .i64 0,.int .i64 0,.int .i64 0,.int .i64 0],.var 29⟩,⟨⟨b5,0,none⟩,[.int .i64 at_],.var 3⟩,⟨⟨b6,0,none⟩,[.int .i64 10],.var 32⟩]++m2:=by
  refine ncallD_by (u':=.panicking [{ v:=.iface 44 (.int .i64 (at_:Int)),recovered:=true }]) (rv:=.ifc 44 (.int .i64 at_)) Tryd.func15 rfl (by decide) rfl (fun c₀ cs hu=>.inl (by simp [recoverD,hu,Su.wrong];rfl)) (fun K hK=>?_)
  conv=>whnf
  refine hK _ ?_
  clear hK K
  (repeat' (first|(with_reducible first|(refine hK _ _ ?_;clear hP hK Kp K)|(refine hA ?_;clear hA hB A B)|(refine hB ?_;clear hA hB A B))|((with_reducible refine st_opX ?_);intro K Kp hK hP;(conv=>whnf))|(with_reducible refine st_nilX ?_)|((first|((with_reducible refine NIf.yes ?s ?_);case s=>rfl)|((with_reducible refine NIf.no ?s ?_);case s=>rfl)|((with_reducible refine NH.mk ?s ?_);case s=>(and_intros<;>first|with_reducible rfl|((with_reducible refine gOnes ?_);rfl)|((with_reducible refine gLen ?_);rfl))))<;>(conv=>whnf))|(with_reducible first|refine st_seqX ?_|refine st_regionX ?_|refine st_skipX ?_)|((with_reducible refine st_condX ?_);intro A B hA hB;(conv=>whnf))|(with_reducible refine st_thenX ?_)))
  all_goals exact ⟨.inl rfl,rfl,_,rfl⟩
theorem parse40_c (F:Heap) (hT:TabF F) (hE:ErrF F) (s:List UInt8) (hs:s.length≤1000000) :
    NCall Tryd.prog 8 [.str s] [hpB F] fun r m=>∃ G lv hv wv sv,F.le G∧Su.At G (Su.out s).1 lv hv wv sv∧r = .tup [.agg (Su.cs (Su.out s).1 lv hv wv sv),.int .i64 (Su.out s).2.1,.int .i64 (Su.out s).2.2]∧m=[hpB G]:=by
  refine NCall.fits (K:=fun r m=>∃ G lv hv wv sv,F.le G∧Su.At G (Su.out s).1 lv hv wv sv∧r.den=(AV.tup [.agg (Su.cs (Su.out s).1 lv hv wv sv),.int .i64 (Su.out s).2.1,.int .i64 (Su.out s).2.2]).den∧MemFits m [hpB G]) ?_ fun r m' ⟨G,lv,hv,wv,sv,h1,h2,h3,h4⟩=>⟨_,_,h3.symm,h4,G,lv,hv,wv,sv,h1,h2,rfl,rfl⟩
  have cg:=fun b=>config40_c F hT hE b s hs
  have ho:Su.out s=match Su.parse (Su.sp 10 s) with
    | .ok c _ _=>(c,0,0)
    | .bad n=>(Su.none40,n,10):=rfl
  generalize Su.out s=o at *
  generalize Su.parse (Su.sp 10 s)=q at *
  unfold Su.rB at cg
  refine ncall_deferred Tryd.func8 rfl (by decide) (fun K hK=>?_)
  conv=>whnf
  refine hK _ ?_
  clear hK K
  refine ny_seq (ny_X ?_)
  (repeat' (first|(with_reducible (refine hK _ _ ?_;clear hP hK Kp K))|((with_reducible refine st_opX ?_);intro K Kp hK hP;(conv=>whnf))|(with_reducible first|refine st_nilX ?_|refine st_regionX ?_)|((intro _;skip)<;>(conv=>whnf))))
  refine ny_seq (ny_defer ?_)
  conv=>whnf
  refine ny_X ?_
  have cp:=fun b4 b5 b6 x0 x1 x2 x3 x4 x5 x6 x7 x8 x9 x10 a e at_=>(closure40_p b4 b5 b6 x0 x1 x2 x3 x4 x5 x6 x7 x8 x9 x10 a e at_).fits (K':=fun u' m'=>settle u' = .returning∧m'=[⟨⟨b4,0,none⟩,[.int .i64 0,.raw (.slice none 0 0),.raw (.slice none 0 0),.raw (.slice none 0 0),.raw (.slice none 0 0),.int .i64 0,.int .i64 0,.int .i64 0,.int .i64 0,.int .i64 0,.int .i64 0],.var 29⟩,⟨⟨b5,0,none⟩,[.int .i64 at_],.var 3⟩,⟨⟨b6,0,none⟩,[.int .i64 10],.var 32⟩]) fun u' m' ⟨h1,m2,h2⟩=>⟨_,by rw [h2];exact MemFits.pre 3 rfl,h1,rfl⟩
  (repeat' (first|(with_reducible first|(refine hK _ _ ?_;clear hP hK Kp K)|(refine hP _ _ ?_;clear hP hK Kp K))|((with_reducible refine gOX ?_);(first|((with_reducible refine st_opX ?_);intro K Kp hK hP;(conv=>whnf))|(with_reducible refine st_nilX ?_)))|((first|((with_reducible refine gH ?_);((with_reducible refine NH.mk ?s ?_);case s=>(and_intros<;>first|with_reducible rfl|((with_reducible refine gOnes ?_);rfl)|((with_reducible refine gLen ?_);rfl))))|((with_reducible refine gCX ?_);((with_reducible refine NCallX.isF 16 ?_);refine NCallX.subw [0,4] _ _ (cg _) rfl (by decide) rfl ?_ ?_;((rintro _ _ ⟨c,ls,n,G,lv,hv,wv,sv,t2,n2,h1,h2,h3,rfl,rfl⟩)<;>refine ⟨Nat.le_of_ble_eq_true rfl,_,rfl,?_⟩);rotate_right;((rintro _ _ ⟨n,h1,rfl,G,t2,n2,h3,rfl⟩)<;>refine ⟨Nat.le_of_ble_eq_true rfl,?_⟩))))<;>(conv=>whnf))|((with_reducible refine gXX ?_);((with_reducible first|refine st_seqX ?_|refine st_regionX ?_|refine st_retX ?_)))|(with_reducible first|refine st_thenX ?_|refine st_thenX_panic ?_)|((intro _;skip)<;>(conv=>whnf))))
  · rename_i b4 b5 b6 b7
    refine nend_one (by intro h;cases h) rfl (NCallD.subw [1,2,3] [.ptr 0 ⟨b4,0,none⟩ 0,.ptr 1 ⟨b5,0,none⟩ 0,.ptr 2 ⟨b6,0,none⟩ 0] _ (cp b4 b5 b6 _ _ _ _ _ _ _ _ _ _ _ _ _ _) rfl (by decide) rfl fun u' bs g=>?_)
    obtain ⟨g1,rfl⟩:=g
    refine ⟨Nat.le_of_ble_eq_true rfl,?_⟩
    conv=>whnf
    refine ⟨g1,?_⟩
    conv=>whnf
    (repeat' (((((with_reducible refine gH ?_);((with_reducible refine NH.mk ?s ?_);case s=>(and_intros<;>with_reducible rfl))))<;>(conv=>whnf))))
    all_goals
      rw [h1] at ho
      subst ho
      exact ⟨G,_,_,_,_,h3,nil40 G,rfl,MemFits.pre 1 rfl⟩
  · rename_i b4 b5 b6 b7
    refine nend_one (by intro h;cases h) rfl (NCallD.subw [1,2,3] [.ptr 0 ⟨b4,0,none⟩ 0,.ptr 1 ⟨b5,0,none⟩ 0,.ptr 2 ⟨b6,0,none⟩ 0] _ (closure40_r b4 b5 b6 _ _ _ _ _ _ _ _ _ _ _ _ _) rfl (by decide) rfl fun u' bs g=>?_)
    obtain ⟨g1,rfl⟩:=g
    refine ⟨Nat.le_of_ble_eq_true rfl,?_⟩
    conv=>whnf
    refine ⟨g1,?_⟩
    conv=>whnf
    (repeat' (((((with_reducible refine gH ?_);((with_reducible refine NH.mk ?s ?_);case s=>(and_intros<;>with_reducible rfl))))<;>(conv=>whnf))))
    all_goals
      rw [h1] at ho
      subst ho
      exact ⟨G,lv,hv,wv,sv,h2,h3,rfl,MemFits.pre 1 rfl⟩
end Go.Proofs.YtgphhbadnjfbjaaDoor
