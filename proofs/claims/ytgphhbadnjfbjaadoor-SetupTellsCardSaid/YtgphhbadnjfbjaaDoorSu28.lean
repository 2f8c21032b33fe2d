import Derived.Test.YtgphhbadnjfbjaaDoorSu18
import Derived.Test.YtgphhbadnjfbjaaDoorSu20
import Derived.Test.YtgphhbadnjfbjaaDoorSu27
namespace Go.Proofs.YtgphhbadnjfbjaaDoor
open Go.Sx
set_option maxRecDepth 20000
set_option linter.unusedSimpArgs false
set_option linter.unusedVariables false
set_option maxHeartbeats 4000000
set_option linter.unusedVariables false
theorem tells40_c (F:Heap) (hT:TabF F) (hE:ErrF F) (c d:Su.Cfg) (lv hv wv sv lw hw ww sw:Value) (hc:Su.At F c lv hv wv sv) (hd:Su.At F d lw hw ww sw) (kc:Su.Wide c) (hn:c.weights.length≤9223372036854775807) (kd:Su.Wide d) (hn2:d.weights.length≤9223372036854775807) (s:List UInt8) (hs:s.length≤9223372036854775807) :
    NCall Tryd.prog 3 [.agg (Su.cs c lv hv wv sv),.agg (Su.cs d lw hw ww sw),.str s] [hpB F] fun r _=>r = .bool true:=by
  have ca:=fun G (h:F.le G)=>awake40_c G (hT.mono h) (hE.mono h)
  have cl:=light40_c F c lv hv wv sv hc hn
  have dl:=light40_c F d lw hw ww sw hd hn2
  by_cases hg:Su.light c=true∧Su.light d=true∧s.length≤2000
  rotate_left
  · cases hl:Su.light c with
    | false =>
      rw [hl] at cl
      unfold Su.cs at *
      refine ncall_of Tryd.func3 rfl (by decide) ?_
      (repeat' (first|(with_reducible first|(refine hK _ _ ?_;clear hK K)|(refine hA ?_;clear hA hB A B)|(refine hK _ ?_;clear hK K))|((with_reducible first|refine z25 ?_|refine z26 ?_);intro K hK;(conv=>whnf))|(with_reducible refine z0 ?_)|((first|((with_reducible refine NIf.yes ?s ?_);case s=>(simp ;done))|((with_reducible refine NH.mk ?s ?_);case s=>(and_intros<;>with_reducible rfl))|((with_reducible refine NCall.isF 6 ?_);refine NCall.subE [0] (cl) rfl (by decide) rfl rfl ?_)|((with_reducible refine NCall.isF 7 ?_);refine NCall.subE [0] (ca F F.le_refl) rfl (by decide) rfl rfl ?_))<;>(conv=>whnf))|(with_reducible first|refine z3 ?_|refine z4 ?_|refine z8 ?_)|((with_reducible refine z29 ?_);intro A B hA hB;(conv=>whnf))|(with_reducible first|refine z1 ?_|refine z2 ?_|refine z12 ?_)|((with_reducible refine gR ?_);(refine z31 rfl ?_;intro K hK;(conv=>whnf)))|((with_reducible refine gF ?_);(refine z33 rfl ?_;intro K hK;(conv=>whnf)))|((intro _;skip)<;>(conv=>whnf))))
      all_goals rfl
    | true =>
    cases hl2:Su.light d with
    | false =>
      rw [hl] at cl
      rw [hl2] at dl
      unfold Su.cs at *
      refine ncall_of Tryd.func3 rfl (by decide) ?_
      (repeat' (first|(with_reducible first|(refine hK _ _ ?_;clear hK K)|(refine hA ?_;clear hA hB A B)|(refine hK _ ?_;clear hK K))|((with_reducible first|refine z25 ?_|refine z26 ?_);intro K hK;(conv=>whnf))|(with_reducible refine z0 ?_)|((first|((with_reducible refine NIf.yes ?s ?_);case s=>(simp ;done))|((with_reducible refine NIf.no ?s ?_);case s=>(simp ;done))|((with_reducible refine NH.mk ?s ?_);case s=>(and_intros<;>with_reducible rfl))|((with_reducible refine NCall.isF 6 ?_);refine NCall.subE [0] (cl) rfl (by decide) rfl rfl ?_)|((with_reducible refine NCall.isF 6 ?_);refine NCall.subE [0] (dl) rfl (by decide) rfl rfl ?_)|((with_reducible refine NCall.isF 7 ?_);refine NCall.subE [0] (ca F F.le_refl) rfl (by decide) rfl rfl ?_))<;>(conv=>whnf))|(with_reducible first|refine z3 ?_|refine z4 ?_|refine z8 ?_)|((with_reducible refine z29 ?_);intro A B hA hB;(conv=>whnf))|(with_reducible first|refine z1 ?_|refine z2 ?_|refine z12 ?_)|((with_reducible refine gR ?_);(refine z31 rfl ?_;intro K hK;(conv=>whnf)))|((with_reducible refine gF ?_);(refine z33 rfl ?_;intro K hK;(conv=>whnf)))|((intro _;skip)<;>(conv=>whnf))))
      all_goals rfl
    | true =>
      have hs2:¬ s.length≤2000:=fun h=>hg ⟨hl,hl2,h⟩
      rw [hl] at cl
      rw [hl2] at dl
      unfold Su.cs at *
      refine ncall_of Tryd.func3 rfl (by decide) ?_
      (repeat' (first|(with_reducible first|(refine hK _ _ ?_;clear hK K)|(refine hA ?_;clear hA hB A B)|(refine hK _ ?_;clear hK K))|((with_reducible first|refine z25 ?_|refine z26 ?_);intro K hK;(conv=>whnf))|(with_reducible refine z0 ?_)|((first|((with_reducible refine NIf.no ?s ?_);case s=>(simp ;done))|((with_reducible refine NIf.decY ?s ?_);case s=>omega)|((with_reducible refine NH.mk ?s ?_);case s=>(and_intros<;>with_reducible rfl))|((with_reducible refine NCall.isF 6 ?_);refine NCall.subE [0] (cl) rfl (by decide) rfl rfl ?_)|((with_reducible refine NCall.isF 6 ?_);refine NCall.subE [0] (dl) rfl (by decide) rfl rfl ?_)|((with_reducible refine NCall.isF 7 ?_);refine NCall.subE [0] (ca F F.le_refl) rfl (by decide) rfl rfl ?_))<;>(conv=>whnf))|(with_reducible first|refine z3 ?_|refine z4 ?_|refine z8 ?_)|((with_reducible refine z29 ?_);intro A B hA hB;(conv=>whnf))|(with_reducible first|refine z1 ?_|refine z2 ?_|refine z12 ?_)|((with_reducible refine gR ?_);(refine z31 rfl ?_;intro K hK;(conv=>whnf)))|((with_reducible refine gF ?_);(refine z33 rfl ?_;intro K hK;(conv=>whnf)))|((intro _;skip)<;>(conv=>whnf))))
      all_goals first | rfl | (exfalso;omega)
  obtain ⟨hl,hl2,hs2⟩:=hg
  have t1:=Su.text_short kc hl
  have t2:=Su.text_short kd hl2
  have s1:=Su.short_of (c:=c) (by omega)
  have s2:=Su.short_of (c:=d) (by omega)
  rw [hl] at cl
  rw [hl2] at dl
  have p1:=parse40_c F hT hE s (by omega)
  have p2:=fun G=>refparse40_c G s (by omega)
  have hcl:=Su.out_clean s
  have hsh:Su.Short (Su.out s).1:=by
    rcases Su.out_again s with ⟨_,_,h⟩ | ⟨_,_,h2⟩
    · exact Su.short_of (by rw [h];omega)
    · rw [h2];exact Su.none_short
  generalize Su.out s=o at *
  obtain ⟨x,n,e⟩:=o
  dsimp only at p1 p2 hcl hsh
  have cx:=fun G (h:F.le G)=>text40_c G (hT.mono h) c lv hv wv sv (hc.mono h) kc (by omega)
  have cy:=fun G (h:F.le G)=>reftext40_c G c lv hv wv sv (hc.mono h) kc (by omega)
  have sx:=fun G (h:F.le G)=>same40_c G c d lv hv wv sv lw hw ww sw (hc.mono h) (hd.mono h) s1 s2
  have sy:=fun G (h:F.le G)=>refsame40_c G c d lv hv wv sv lw hw ww sw (hc.mono h) (hd.mono h) s1 s2
  have sz:=fun G a1 a2 a3 a4 b1 b2 b3 b4 (h1:Su.At G x a1 a2 a3 a4) (h2:Su.At G x b1 b2 b3 b4)=>refsame40_c G x x a1 a2 a3 a4 b1 b2 b3 b4 h1 h2 hsh hsh
  generalize decide (c=d)=q at *
  rw [decide_eq_true rfl] at sz
  generalize Su.text c=tx at *
  unfold Su.cs at *
  refine ncall_of Tryd.func3 rfl (by decide) ?_
  (repeat' (first|(with_reducible first|(refine hK _ _ ?_;clear hK K)|(refine hB ?_;clear hA hB A B)|(refine hK _ ?_;clear hK K))|((with_reducible first|refine z25 ?_|refine z26 ?_);intro K hK;(conv=>whnf))|(with_reducible refine z0 ?_)|((first|((with_reducible refine NIf.no ?s ?_);case s=>(simp ;done))|((with_reducible refine NIf.decN ?s ?_);case s=>omega)|((with_reducible refine NH.mk ?s ?_);case s=>(and_intros<;>first|with_reducible rfl|((with_reducible refine gOnes ?_);rfl)|((with_reducible refine gLen ?_);rfl)))|((with_reducible refine NCall.isF 6 ?_);refine NCall.subE [0] (cl) rfl (by decide) rfl rfl ?_)|((with_reducible refine NCall.isF 6 ?_);refine NCall.subE [0] (dl) rfl (by decide) rfl rfl ?_)|((with_reducible refine NCall.isF 8 ?_);refine NCall.subw [0] _ _ (p1) rfl (by decide) rfl ?_;rintro _ _ ⟨G1,a1,a2,a3,a4,h1,h2,rfl,rfl⟩;refine ⟨Nat.le_of_ble_eq_true rfl,_,rfl,?_⟩)|((with_reducible refine NCall.isF 9 ?_);refine NCall.subw [0] _ _ (p2 G1) rfl (by decide) rfl ?_;rintro _ _ ⟨G2,b1,b2,b3,b4,h3,h4,rfl,rfl⟩;refine ⟨Nat.le_of_ble_eq_true rfl,_,rfl,?_⟩))<;>(conv=>whnf))|(with_reducible first|refine z3 ?_|refine z4 ?_|refine z6 ?_)|((with_reducible refine z29 ?_);intro A B hA hB;(conv=>whnf))|(with_reducible first|refine z1 ?_|refine z2 ?_)|((with_reducible refine gF ?_);(refine z33 rfl ?_;intro K hK;(conv=>whnf)))|((intro _;skip)<;>(conv=>whnf))))
  have h13:=h1.trans h3
  (repeat' (first|(with_reducible first|(refine hK _ _ ?_;clear hK K)|(refine hK _ ?_;clear hK K))|((first|((with_reducible refine NIf.yes ?s ?_);case s=>(simp ;done))|((with_reducible refine NH.mk ?s ?_);case s=>(and_intros<;>first|((with_reducible refine gKept ?_);exact rfl)|rfl))|((with_reducible refine NCall.isF 10 ?_);refine NCall.subE [0] (cx _ (by first | exact h13 | exact h13.trans k1)) rfl (by decide) rfl rfl ?_)|((with_reducible refine NCall.isF 11 ?_);refine NCall.subw [0] _ _ (cy _ (by exact h13)) rfl (by decide) rfl ?_;rintro _ _ ⟨rfl,G3,k1,rfl⟩;refine ⟨Nat.le_of_ble_eq_true rfl,_,rfl,?_⟩)|((with_reducible refine NCall.isF 12 ?_);refine NCall.subE [0] (sx _ (by first | exact h13.trans k1 | exact (h13.trans k1).trans k2)) rfl (by decide) rfl rfl ?_)|((with_reducible refine NCall.isF 13 ?_);refine NCall.subw [0] _ _ (sy _ (by exact h13.trans k1)) rfl (by decide) rfl ?_;rintro _ _ ⟨rfl,G4,k2,rfl⟩;refine ⟨Nat.le_of_ble_eq_true rfl,_,rfl,?_⟩)|((with_reducible refine NCall.isF 13 ?_);refine NCall.subw [0] _ _ (sz _ _ _ _ _ _ _ _ _ (h2.mono ((h3.trans k1).trans k2)) (h4.mono (k1.trans k2))) rfl (by decide) rfl ?_;rintro _ _ ⟨rfl,G5,k3,rfl⟩;refine ⟨Nat.le_of_ble_eq_true rfl,_,rfl,?_⟩)|((with_reducible refine NCall.isF 7 ?_);refine NCall.subE [0] (ca _ (((h13.trans k1).trans k2).trans k3)) rfl (by decide) rfl rfl ?_))<;>(conv=>whnf))|(with_reducible refine st_ordSout ?_)|((with_reducible refine gNOK ?_);(first|(refine st_ordK1 rfl (by kernel_rfl) rfl ?_;intro K hK;(conv=>whnf))|(refine st_ordK1g rfl (by kernel_rfl) rfl ?_;intro K hK;(conv=>whnf))|refine st_ordK0 rfl (by kernel_rfl) ?_|refine st_ordKA rfl rfl (by kernel_rfl) (by intro h;cases h) ?_))|((with_reducible refine gNEK ?_);(first|(refine st_eachK ?_ ?_;(intro K hK;(conv=>whnf)))|(refine st_eachKg rfl ?_ ?_;(intro K hK;(conv=>whnf)))|exact st_eachK0))|((with_reducible refine gX ?_);(first|refine st_orderS [0] rfl rfl (by kernel_rfl) _ rfl ?_|(with_reducible refine z8 ?_)))|(with_reducible first|refine z1 ?_|refine z2 ?_)|((with_reducible refine gR ?_);(refine z31 rfl ?_;intro K hK;(conv=>whnf)))))
  all_goals first | rfl | (exfalso;omega)
end Go.Proofs.YtgphhbadnjfbjaaDoor
