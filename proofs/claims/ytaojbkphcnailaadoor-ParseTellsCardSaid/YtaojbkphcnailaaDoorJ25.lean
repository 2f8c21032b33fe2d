import Derived.Test.YtaojbkphcnailaaDoorJ24
import Derived.Test.YtaojbkphcnailaaDoorJ20
import Derived.Test.YtaojbkphcnailaaDoorJ5
namespace Go.Proofs.YtaojbkphcnailaaDoor
open Go.Sx
set_option maxRecDepth 20000
set_option linter.unusedSimpArgs false
set_option linter.unusedVariables false
set_option maxHeartbeats 4000000
set_option linter.unusedVariables false
theorem closure27_r (b4 b5 b6:Nat) (x0 x1 x2 x3 x4 x5 x6 x7:AV) (a e:Int) :
    NCallD Tryd.prog 56 [.ptr 0 ⟨b4,0,none⟩ 0,.ptr 1 ⟨b5,0,none⟩ 0,.ptr 2 ⟨b6,0,none⟩ 0] [⟨⟨b4,0,none⟩,[x0,x1,x2,x3,x4,x5,x6,x7],.var 28⟩,⟨⟨b5,0,none⟩,[.int .i64 a],.var 3⟩,⟨⟨b6,0,none⟩,[.int .i64 e],.var 29⟩] .returning
      fun u' m'=>settle u' = .returning∧m'=[⟨⟨b4,0,none⟩,[x0,x1,x2,x3,x4,x5,x6,x7],.var 28⟩,⟨⟨b5,0,none⟩,[.int .i64 a],.var 3⟩,⟨⟨b6,0,none⟩,[.int .i64 e],.var 29⟩]:=by
  refine ncallD_by (u':=.returning) (rv:=.raw .nilIface) Tryd.func56 rfl (by decide) rfl (fun c₀ cs hu=>.inr ⟨by simp [recoverD,hu],rfl,rfl⟩) (fun K hK=>?_)
  conv=>whnf
  refine hK _ ?_
  clear hK K
  (repeat' (first|(with_reducible first|(refine hK _ _ ?_;clear hP hK Kp K)|(refine hA ?_;clear hA hB A B))|((with_reducible refine st_opX ?_);intro K Kp hK hP;(conv=>whnf))|(with_reducible refine st_nilX ?_)|(((with_reducible refine NIf.yes ?s ?_);case s=>rfl)<;>(conv=>whnf))|(with_reducible first|refine st_seqX ?_|refine st_regionX ?_|refine st_retX ?_)|((with_reducible refine st_condX ?_);intro A B hA hB;(conv=>whnf))|(with_reducible first|refine st_thenX ?_|refine st_thenX_ret ?_)))
  all_goals exact ⟨.inr rfl,rfl,rfl⟩
theorem closure27_p (b4 b5 b6:Nat) (x0 x1 x2 x3 x4 x5 x6 x7:AV) (a e at_:Int) :
    NCallD Tryd.prog 56 [.ptr 0 ⟨b4,0,none⟩ 0,.ptr 1 ⟨b5,0,none⟩ 0,.ptr 2 ⟨b6,0,none⟩ 0] [⟨⟨b4,0,none⟩,[x0,x1,x2,x3,x4,x5,x6,x7],.var 28⟩,⟨⟨b5,0,none⟩,[.int .i64 a],.var 3⟩,⟨⟨b6,0,none⟩,[.int .i64 e],.var 29⟩] (.panicking (Ps.wrong at_))
      fun u' m'=>settle u' = .returning∧∃ m2,m'=[⟨⟨b4,0,none⟩,[.int .i64 0,.int .i64 0,.int .i64 0,.int .i64 0,.raw (.slice none 0 0),.int .i64 0,.int .i64 0,.raw (.slice none 0 0)],.var 28⟩,⟨⟨b5,0,none⟩,[.int .i64 at_],.var 3⟩,⟨⟨b6,0,none⟩,[.int .i64 10],.var 29⟩]++m2:=by
  refine ncallD_by (u':=.panicking [{ v:=.iface 90 (.int .i64 at_),recovered:=true }]) (rv:=.ifc 90 (.int .i64 at_)) Tryd.func56 rfl (by decide) rfl (fun c₀ cs hu=>.inl (by simp [recoverD,hu,Ps.wrong];rfl)) (fun K hK=>?_)
  conv=>whnf
  refine hK _ ?_
  clear hK K
  (repeat' (first|(with_reducible first|(refine hK _ _ ?_;clear hP hK Kp K)|(refine hA ?_;clear hA hB A B)|(refine hB ?_;clear hA hB A B))|((with_reducible refine st_opX ?_);intro K Kp hK hP;(conv=>whnf))|(with_reducible refine st_nilX ?_)|((first|((with_reducible refine NIf.yes ?s ?_);case s=>rfl)|((with_reducible refine NIf.no ?s ?_);case s=>rfl)|((with_reducible refine NH.mk ?s ?_);case s=>(and_intros<;>first|with_reducible rfl|((with_reducible refine gOnes ?_);rfl)|((with_reducible refine gLen ?_);rfl))))<;>(conv=>whnf))|(with_reducible first|refine st_seqX ?_|refine st_regionX ?_|refine st_skipX ?_)|((with_reducible refine st_condX ?_);intro A B hA hB;(conv=>whnf))|(with_reducible refine st_thenX ?_)|((intro _;skip)<;>(conv=>whnf))))
  all_goals exact ⟨.inl rfl,rfl,_,rfl⟩
theorem closure26_r (b4 b5 b6:Nat) (x0 x1 x2 x3:AV) (a e:Int) :
    NCallD Tryd.prog 67 [.ptr 0 ⟨b4,0,none⟩ 0,.ptr 1 ⟨b5,0,none⟩ 0,.ptr 2 ⟨b6,0,none⟩ 0] [⟨⟨b4,0,none⟩,[x0,x1,x2,x3],.var 25⟩,⟨⟨b5,0,none⟩,[.int .i64 a],.var 3⟩,⟨⟨b6,0,none⟩,[.int .i64 e],.var 29⟩] .returning
      fun u' m'=>settle u' = .returning∧m'=[⟨⟨b4,0,none⟩,[x0,x1,x2,x3],.var 25⟩,⟨⟨b5,0,none⟩,[.int .i64 a],.var 3⟩,⟨⟨b6,0,none⟩,[.int .i64 e],.var 29⟩]:=by
  refine ncallD_by (u':=.returning) (rv:=.raw .nilIface) Tryd.func67 rfl (by decide) rfl (fun c₀ cs hu=>.inr ⟨by simp [recoverD,hu],rfl,rfl⟩) (fun K hK=>?_)
  conv=>whnf
  refine hK _ ?_
  clear hK K
  (repeat' (first|(with_reducible first|(refine hK _ _ ?_;clear hP hK Kp K)|(refine hA ?_;clear hA hB A B))|((with_reducible refine st_opX ?_);intro K Kp hK hP;(conv=>whnf))|(with_reducible refine st_nilX ?_)|(((with_reducible refine NIf.yes ?s ?_);case s=>rfl)<;>(conv=>whnf))|(with_reducible first|refine st_seqX ?_|refine st_regionX ?_|refine st_retX ?_)|((with_reducible refine st_condX ?_);intro A B hA hB;(conv=>whnf))|(with_reducible first|refine st_thenX ?_|refine st_thenX_ret ?_)))
  all_goals exact ⟨.inr rfl,rfl,rfl⟩
theorem closure26_p (b4 b5 b6:Nat) (x0 x1 x2 x3:AV) (a e at_:Int) :
    NCallD Tryd.prog 67 [.ptr 0 ⟨b4,0,none⟩ 0,.ptr 1 ⟨b5,0,none⟩ 0,.ptr 2 ⟨b6,0,none⟩ 0] [⟨⟨b4,0,none⟩,[x0,x1,x2,x3],.var 25⟩,⟨⟨b5,0,none⟩,[.int .i64 a],.var 3⟩,⟨⟨b6,0,none⟩,[.int .i64 e],.var 29⟩] (.panicking (Ps.wrong at_))
      fun u' m'=>settle u' = .returning∧∃ m2,m'=[⟨⟨b4,0,none⟩,[.int .i64 0,.int .i64 0,.int .i64 0,.raw (.slice none 0 0)],.var 25⟩,⟨⟨b5,0,none⟩,[.int .i64 at_],.var 3⟩,⟨⟨b6,0,none⟩,[.int .i64 10],.var 29⟩]++m2:=by
  refine ncallD_by (u':=.panicking [{ v:=.iface 90 (.int .i64 at_),recovered:=true }]) (rv:=.ifc 90 (.int .i64 at_)) Tryd.func67 rfl (by decide) rfl (fun c₀ cs hu=>.inl (by simp [recoverD,hu,Ps.wrong];rfl)) (fun K hK=>?_)
  conv=>whnf
  refine hK _ ?_
  clear hK K
  (repeat' (first|(with_reducible first|(refine hK _ _ ?_;clear hP hK Kp K)|(refine hA ?_;clear hA hB A B)|(refine hB ?_;clear hA hB A B))|((with_reducible refine st_opX ?_);intro K Kp hK hP;(conv=>whnf))|(with_reducible refine st_nilX ?_)|((first|((with_reducible refine NIf.yes ?s ?_);case s=>rfl)|((with_reducible refine NIf.no ?s ?_);case s=>rfl)|((with_reducible refine NH.mk ?s ?_);case s=>(and_intros<;>first|with_reducible rfl|((with_reducible refine gOnes ?_);rfl)|((with_reducible refine gLen ?_);rfl))))<;>(conv=>whnf))|(with_reducible first|refine st_seqX ?_|refine st_regionX ?_|refine st_skipX ?_)|((with_reducible refine st_condX ?_);intro A B hA hB;(conv=>whnf))|(with_reducible refine st_thenX ?_)|((intro _;skip)<;>(conv=>whnf))))
  all_goals exact ⟨.inl rfl,rfl,_,rfl⟩
end Go.Proofs.YtaojbkphcnailaaDoor
namespace Go.Proofs.YtaojbkphcnailaaDoor
open Go.Sx
set_option maxRecDepth 20000
set_option linter.unusedVariables false
theorem lex_good (F:Heap) (tx:List UInt8) (hs:tx.length≤4000) (L:List (Lx.B × List UInt8)) (hL:Lx.toks tx=some L) (hl:L.length≤500):NCall Tryd.prog 55 [.str tx] [hpB F] fun r m =>
    ∃ F' v,F.le F'∧m=[hpB F']∧r = .tup [.hs v (Lx.res tx L).length,.int .i64 0,.int .i64 0]∧RowF F' 4 (fun x vs=>vs=Lx.tokV x) v (Lx.res tx L) :=
  (lex_c F tx hs).mono fun r m h=>by
    rcases h with ⟨L',F',v,h1,h2,h3,h4,h5,h6⟩ | ⟨h1,_⟩
    · rw [hL] at h1
      injection h1 with h1
      subst h1
      exact ⟨F',v,h3,h4,h5,h6⟩
    · exact (h1 ⟨L,hL,hl⟩).elim
theorem Lx.res_b (tx:List UInt8) (L:List (Lx.B × List UInt8)):(Lx.res tx L).map Lx.b=L.map (·.1)++[⟨4,0,[]⟩]:=by
  unfold Lx.res
  rw [List.map_append,List.map_map]
  congr 1
end Go.Proofs.YtaojbkphcnailaaDoor
