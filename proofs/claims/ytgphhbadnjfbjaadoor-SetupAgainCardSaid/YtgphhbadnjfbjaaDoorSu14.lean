import Derived.Test.YtgphhbadnjfbjaaDoorSu13
namespace Go.Proofs.YtgphhbadnjfbjaaDoor
open Go.Sx
set_option maxRecDepth 20000
set_option linter.unusedSimpArgs false
set_option linter.unusedVariables false
set_option maxHeartbeats 4000000
set_option linter.unusedVariables false
theorem zero40 (G:Heap):Su.At G Su.none40 (.slice none 0 0) (.slice none 0 0) (.slice none 0 0) (.slice none 0 0):=⟨RowF.nil,RowF.nil,⟨[],rfl,RowF.nil,fun p hp=>by cases hp⟩,RowF.nil⟩
theorem again40_c (F:Heap) (hT:TabF F) (hE:ErrF F) (s:List UInt8) (hs:s.length≤9223372036854775807) :
    NCall Tryd.prog 5 [.str s] [hpB F] fun r _=>r = .bool true:=by
  have ca:=fun G (h:F.le G)=>awake40_c G (hT.mono h) (hE.mono h)
  by_cases hl:2000<s.length
  · refine ncall_of Tryd.func5 rfl (by decide) ?_
    (repeat' (first|(with_reducible first|(refine hK _ _ ?_;clear hK K)|(refine hA ?_;clear hA hB A B)|(refine hK _ ?_;clear hK K))|((with_reducible refine z25 ?_);intro K hK;(conv=>whnf))|(with_reducible refine z0 ?_)|((first|((with_reducible refine NIf.decY ?s ?_);case s=>omega)|((with_reducible refine NCall.isF 7 ?_);refine NCall.subE [0] (ca F F.le_refl) rfl (by decide) rfl rfl ?_))<;>(conv=>whnf))|(with_reducible first|refine z3 ?_|refine z4 ?_|refine z8 ?_)|((with_reducible refine z29 ?_);intro A B hA hB;(conv=>whnf))|(with_reducible first|refine z1 ?_|refine z2 ?_|refine z12 ?_)|((with_reducible refine gR ?_);(refine z31 rfl ?_;intro K hK;(conv=>whnf)))|((with_reducible refine gF ?_);(refine z33 rfl ?_;intro K hK;(conv=>whnf)))))
    all_goals rfl
  have cp:=parse40_c F hT hE s (by omega)
  have hc:=Su.out_clean s
  have hx:=Su.out_again s
  generalize Su.out s=o at *
  obtain ⟨c,n,e⟩:=o
  dsimp only at cp hc hx
  rcases hx with ⟨rfl,rfl,rfl⟩ | ⟨rfl,hn,rfl⟩
  · have ct:=fun G a b d f (h:Su.At G c a b d f) (h2:F.le G)=>text40_c G (hT.mono h2) c a b d f h hc.wide (by omega)
    refine ncall_of Tryd.func5 rfl (by decide) ?_
    (repeat' (first|(with_reducible first|(refine hK _ _ ?_;clear hK K)|(refine hB ?_;clear hA hB A B)|(refine hK _ ?_;clear hK K))|((with_reducible first|refine z25 ?_|refine z26 ?_);intro K hK;(conv=>whnf))|(with_reducible refine z0 ?_)|((first|((with_reducible refine NIf.yes ?s ?_);case s=>(simp ;done))|((with_reducible refine NIf.no ?s ?_);case s=>(simp ;done))|((with_reducible refine NIf.decN ?s ?_);case s=>omega)|((with_reducible refine NH.mk ?s ?_);case s=>(and_intros<;>first|with_reducible rfl|((with_reducible refine gOnes ?_);rfl)|((with_reducible refine gLen ?_);rfl)))|((with_reducible refine NCall.isF 8 ?_);refine NCall.subw [0] _ _ (cp) rfl (by decide) rfl ?_;rintro _ _ ⟨G1,lv,hv,wv,sv,h1,h2,rfl,rfl⟩;refine ⟨Nat.le_of_ble_eq_true rfl,_,rfl,?_⟩)|((with_reducible refine NCall.isF 10 ?_);refine NCall.subE [0] (ct G1 lv hv wv sv h2 h1) rfl (by decide) rfl rfl ?_)|((with_reducible refine NCall.isF 7 ?_);refine NCall.subE [0] (ca G1 h1) rfl (by decide) rfl rfl ?_))<;>(conv=>whnf))|(with_reducible first|refine z3 ?_|refine z4 ?_|refine z6 ?_|refine z8 ?_)|((with_reducible refine z29 ?_);intro A B hA hB;(conv=>whnf))|(with_reducible first|refine z1 ?_|refine z2 ?_)|((with_reducible refine gR ?_);(refine z31 rfl ?_;intro K hK;(conv=>whnf)))|((with_reducible refine gF ?_);(refine z33 rfl ?_;intro K hK;(conv=>whnf)))|((intro _;skip)<;>(conv=>whnf))))
    all_goals first | rfl | (exfalso;omega)
  · have cs:=fun G a b d f (h:Su.At G Su.none40 a b d f)=>same40_c G Su.none40 Su.none40 a b d f _ _ _ _ h (zero40 G) Su.none_short Su.none_short
    rw [decide_eq_true rfl] at cs
    refine ncall_of Tryd.func5 rfl (by decide) ?_
    (repeat' (first|(with_reducible first|(refine hK _ _ ?_;clear hK K)|(refine hA ?_;clear hA hB A B)|(refine hB ?_;clear hA hB A B)|(refine hK _ ?_;clear hK K))|((with_reducible first|refine z25 ?_|refine z26 ?_);intro K hK;(conv=>whnf))|(with_reducible refine z0 ?_)|((first|((with_reducible refine NIf.yes ?s ?_);case s=>(simp ;done))|((with_reducible refine NIf.decY ?s ?_);case s=>omega)|((with_reducible refine NIf.decN ?s ?_);case s=>omega)|((with_reducible refine NH.mk ?s ?_);case s=>(and_intros<;>first|with_reducible rfl|((with_reducible refine gOnes ?_);rfl)|((with_reducible refine gLen ?_);rfl)))|((with_reducible refine NCall.isF 8 ?_);refine NCall.subw [0] _ _ (cp) rfl (by decide) rfl ?_;rintro _ _ ⟨G1,lv,hv,wv,sv,h1,h2,rfl,rfl⟩;refine ⟨Nat.le_of_ble_eq_true rfl,_,rfl,?_⟩)|((with_reducible refine NCall.isF 12 ?_);refine NCall.subE [0] (cs G1 lv hv wv sv h2) rfl (by decide) rfl rfl ?_)|((with_reducible refine NCall.isF 7 ?_);refine NCall.subE [0] (ca G1 h1) rfl (by decide) rfl rfl ?_))<;>(conv=>whnf))|(with_reducible first|refine z3 ?_|refine z4 ?_|refine z6 ?_|refine z8 ?_)|((with_reducible refine z29 ?_);intro A B hA hB;(conv=>whnf))|(with_reducible first|refine z1 ?_|refine z2 ?_|refine z12 ?_)|((with_reducible refine gR ?_);(refine z31 rfl ?_;intro K hK;(conv=>whnf)))|((with_reducible refine gF ?_);(refine z33 rfl ?_;intro K hK;(conv=>whnf)))|((intro _;skip)<;>(conv=>whnf))))
    all_goals first | rfl | (exfalso;omega)
end Go.Proofs.YtgphhbadnjfbjaaDoor
