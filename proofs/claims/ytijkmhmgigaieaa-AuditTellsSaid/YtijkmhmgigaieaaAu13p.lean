import Derived.Test.YtijkmhmgigaieaaAu2
namespace Go.Proofs.Ytijkmhmgigaieaa
open Go.Sx
set_option maxRecDepth 20000
set_option linter.unusedSimpArgs false
set_option linter.unusedVariables false
set_option maxHeartbeats 4000000
set_option linter.unusedVariables false
namespace Au
def word (k:Int):List UInt8:=if k=1 then [116,119,105,99,101] else if k=2 then [108,111,115,116] else if k=3 then [97,115,116,114,97,121] else if k=4 then [111,116,104,101,114] else [63]
theorem word_out {k:Int} (h:¬(1≤k∧k≤4)):word k=[63]:=by
  unfold word
  rw [if_neg (by omega),if_neg (by omega),if_neg (by omega),if_neg (by omega)]
end Au
theorem name42_c (k:Int):NCall Try.prog 19 [.int .i64 k] [] fun r m=>r = .str (Au.word k)∧m=[]:=by
  refine NCall.fits (K:=fun r m=>r = .str (Au.word k)∧m=[]) ?_ fun r m' h=>⟨r,_,rfl,h.2 ▸ MemFits.eq rfl,h.1,rfl⟩
  by_cases h:1≤k∧k≤4
  · have h4:k=1∨k=2∨k=3∨k=4:=by omega
    rcases h4 with rfl | rfl | rfl | rfl
    all_goals refine ncall_of Try.func19 rfl (by decide) ?_
    all_goals (repeat' (first|(with_reducible first|(refine hK _ _ ?_;clear hK K)|(refine hB ?_;clear hA hB A B)|(refine hK _ ?_;clear hK K))|((with_reducible first|refine z25 ?_|refine z26 ?_);intro K hK;(conv=>whnf))|(with_reducible refine z0 ?_)|((first|((with_reducible refine NV.i64 ?s ?_);case s=>omega)|((with_reducible refine NIf.decN ?s ?_);case s=>omega)|(with_reducible first|refine NN.a2 ?_|refine NN.keep ?_)|((with_reducible refine NH.mk ?s ?_);case s=>(and_intros<;>omega)))<;>(conv=>whnf))|(with_reducible first|refine z3 ?_|refine z4 ?_|refine z6 ?_|refine z8 ?_)|((with_reducible refine z29 ?_);intro A B hA hB;(conv=>whnf))|(with_reducible first|refine z1 ?_|refine z2 ?_)|((with_reducible refine gR ?_);(refine z31 rfl ?_;intro K hK;(conv=>whnf)))|((with_reducible refine gF ?_);(refine z33 rfl ?_;intro K hK;(conv=>whnf)))))
    all_goals exact ⟨rfl,rfl⟩
  · rw [Au.word_out h]
    refine ncall_of Try.func19 rfl (by decide) ?_
    (repeat' (first|(with_reducible first|(refine hK _ _ ?_;clear hK K)|(refine hA ?_;clear hA hB A B)|(refine hK _ ?_;clear hK K))|((with_reducible first|refine z25 ?_|refine z26 ?_);intro K hK;(conv=>whnf))|(with_reducible refine z0 ?_)|((first|((with_reducible refine NIf.decY ?s ?_);case s=>first|assumption|omega)|((with_reducible refine NIf.decN ?s ?_);case s=>assumption)|((with_reducible refine NIf.yes ?s ?_);case s=>rfl)|(with_reducible refine NIf.dec (fun _=>?_) (fun _=>?_)))<;>(conv=>whnf))|(with_reducible first|refine z3 ?_|refine z4 ?_|refine z8 ?_)|((with_reducible refine z29 ?_);intro A B hA hB;(conv=>whnf))|(with_reducible first|refine z1 ?_|refine z2 ?_|refine z12 ?_)|((with_reducible refine gR ?_);(refine z31 rfl ?_;intro K hK;(conv=>whnf)))|((with_reducible refine gF ?_);(refine z33 rfl ?_;intro K hK;(conv=>whnf)))))
    all_goals first | (exfalso;omega) | exact ⟨rfl,rfl⟩
theorem word42_c (k:Int):NCall Try.prog 20 [.int .i64 k] [] fun r m=>r = .str (Au.word k)∧m=[]:=by
  refine NCall.fits (K:=fun r m=>r = .str (Au.word k)∧MemFits m []) ?_ fun r m' h=>⟨r,_,rfl,h.2,h.1,rfl⟩
  by_cases h:1≤k∧k≤4
  · have h4:k=1∨k=2∨k=3∨k=4:=by omega
    rcases h4 with rfl | rfl | rfl | rfl
    all_goals refine ncall_of Try.func20 rfl (by decide) ?_
    all_goals (repeat' (first|(with_reducible first|(refine hK _ _ ?_;clear hK K)|(refine hB ?_;clear hA hB A B)|(refine hK _ ?_;clear hK K))|((with_reducible first|refine z25 ?_|refine z26 ?_);intro K hK;(conv=>whnf))|(with_reducible refine z0 ?_)|((first|((with_reducible refine NV.i64 ?s ?_);case s=>omega)|((with_reducible refine NIf.decN ?s ?_);case s=>omega)|(with_reducible first|refine NN.a2 ?_|refine NN.keep ?_)|((with_reducible refine NH.mk ?s ?_);case s=>(and_intros<;>first|with_reducible rfl|((with_reducible refine gLen ?_);rfl)|omega)))<;>(conv=>whnf))|(with_reducible first|refine z3 ?_|refine z4 ?_|refine z6 ?_|refine z8 ?_)|((with_reducible refine z29 ?_);intro A B hA hB;(conv=>whnf))|(with_reducible first|refine z1 ?_|refine z2 ?_)|((with_reducible refine gR ?_);(refine z31 rfl ?_;intro K hK;(conv=>whnf)))|((with_reducible refine gF ?_);(refine z33 rfl ?_;intro K hK;(conv=>whnf)))|((intro _;skip)<;>(conv=>whnf))))
    all_goals exact ⟨rfl,MemFits.pre 0 rfl⟩
  · rw [Au.word_out h]
    refine ncall_of Try.func20 rfl (by decide) ?_
    (repeat' (first|(with_reducible first|(refine hK _ _ ?_;clear hK K)|(refine hA ?_;clear hA hB A B)|(refine hK _ ?_;clear hK K))|((with_reducible first|refine z25 ?_|refine z26 ?_);intro K hK;(conv=>whnf))|(with_reducible refine z0 ?_)|((first|((with_reducible refine NIf.decY ?s ?_);case s=>first|assumption|omega)|((with_reducible refine NIf.decN ?s ?_);case s=>assumption)|((with_reducible refine NIf.yes ?s ?_);case s=>rfl)|(with_reducible refine NIf.dec (fun _=>?_) (fun _=>?_)))<;>(conv=>whnf))|(with_reducible first|refine z3 ?_|refine z4 ?_|refine z8 ?_)|((with_reducible refine z29 ?_);intro A B hA hB;(conv=>whnf))|(with_reducible first|refine z1 ?_|refine z2 ?_|refine z12 ?_)|((with_reducible refine gR ?_);(refine z31 rfl ?_;intro K hK;(conv=>whnf)))|((with_reducible refine gF ?_);(refine z33 rfl ?_;intro K hK;(conv=>whnf)))))
    all_goals first | (exfalso;omega) | exact ⟨rfl,MemFits.pre 0 rfl⟩
end Go.Proofs.Ytijkmhmgigaieaa
