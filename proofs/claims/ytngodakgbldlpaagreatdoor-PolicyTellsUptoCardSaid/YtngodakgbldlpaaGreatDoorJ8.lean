import Derived.Test.YtngodakgbldlpaaGreatDoorJ7
import Derived.Test.YtngodakgbldlpaaGreatDoorJ3
import Derived.Test.YtngodakgbldlpaaGreatDoorJ2
import Derived.Sort.Grow
namespace Go.Proofs.YtngodakgbldlpaaGreatDoor
open Go.Sx
set_option maxRecDepth 20000
set_option linter.unusedSimpArgs false
set_option linter.unusedVariables false
set_option maxHeartbeats 4000000
set_option linter.unusedVariables false
theorem is27_c (f : Int) (b : Bool) (hb : b = true ↔ 0 ≤ f ∧ f < 4) : NCall Tryz.prog 115 [.int .i64 f] [] fun r _ => r = .bool b := by
  refine ncall_of Tryz.func115 rfl (by decide) ?_
  cases b
  · have hn : ¬ (0 ≤ f ∧ f < 4) := fun h => by cases hb.2 h
    (repeat' (first|(with_reducible first|(refine hK _ _ ?_;clear hK K)|(refine hK _ ?_;clear hK K))|((with_reducible refine gO ?_);(first|((with_reducible first|refine z25 ?_|refine z26 ?_);intro K hK;(conv=>whnf))|(with_reducible refine z0 ?_)))|((((with_reducible refine gI ?_);(first|((with_reducible refine NIf.decY ?s ?_);case s=>assumption)|((with_reducible refine NIf.decN ?s ?_);case s=>assumption)|(with_reducible refine NIf.dec (fun _=>?_) (fun _=>?_)))))<;>(conv=>whnf))|(with_reducible refine gX ?_;first|refine z3 ?_|refine z4 ?_|refine z8 ?_)|(with_reducible first|refine z1 ?_|refine z2 ?_)|((with_reducible refine gR ?_);((refine z31 rfl ?_);intro K hK;(conv=>whnf)))|((with_reducible refine gF ?_);((refine z33 rfl ?_);intro K hK;(conv=>whnf)))))
    all_goals first
      | rfl
      | (congr 1; simp only [decide_eq_false_iff_not]; omega)
      | (exfalso; omega)
  · have hp := hb.1 rfl
    (repeat' (first|(with_reducible first|(refine hK _ _ ?_;clear hK K)|(refine hK _ ?_;clear hK K))|((with_reducible refine gO ?_);(first|((with_reducible first|refine z25 ?_|refine z26 ?_);intro K hK;(conv=>whnf))|(with_reducible refine z0 ?_)))|((((with_reducible refine gI ?_);(((with_reducible refine NIf.decY ?s ?_);case s=>omega))))<;>(conv=>whnf))|(with_reducible refine gX ?_;first|refine z3 ?_|refine z4 ?_|refine z8 ?_)|(with_reducible first|refine z1 ?_|refine z2 ?_)|((with_reducible refine gR ?_);((refine z31 rfl ?_);intro K hK;(conv=>whnf)))|((with_reducible refine gF ?_);((refine z33 rfl ?_);intro K hK;(conv=>whnf)))))
    all_goals first
      | rfl
      | (congr 1; simp only [decide_eq_true_eq]; omega)
      | (exfalso; omega)
theorem with27_c (s : Po.S) (f v : Int) : NCall Tryz.prog 88 [.agg [.int .i64 s.p0, .int .i64 s.p1, .int .i64 s.p2, .int .i64 s.p3], .int .i64 f, .int .i64 v] [] fun r _ => r = .agg [.int .i64 (Po.withS f v s).p0, .int .i64 (Po.withS f v s).p1, .int .i64 (Po.withS f v s).p2, .int .i64 (Po.withS f v s).p3] := by
  refine NCall.fits (K := fun r m => r = .agg [.int .i64 (Po.withS f v s).p0, .int .i64 (Po.withS f v s).p1, .int .i64 (Po.withS f v s).p2, .int .i64 (Po.withS f v s).p3]) ?_ fun r m' h => ⟨r, _, rfl, MemFits.eq rfl, h⟩
  have ht : NCall Tryz.prog 116 [.int .i64 f] [] fun r _ => r = .int .i64 (Po.ptop f) := ptop26_c f
  refine ncall_of Tryz.func88 rfl (by decide) ?_
  have hw : Po.withS f v s = if (0 ≤ f ∧ f < 4) ∧ 0 ≤ v ∧ v ≤ Po.ptop f then (if f = 0 then { s with p0 := v } else if f = 1 then { s with p1 := v } else if f = 2 then { s with p2 := v } else { s with p3 := v }) else s := rfl
  by_cases h4 : 0 ≤ f ∧ f < 4
  · have hi := is27_c f true (by simpa using h4)
    generalize Po.withS f v s = E at *
    generalize Po.ptop f = tp at *
    obtain ⟨a0, a, b, c, d⟩ := s
    by_cases hv : 0 ≤ v ∧ v ≤ tp
    · rw [if_pos ⟨h4, hv⟩] at hw
      have h4' : f = 0 ∨ f = 1 ∨ f = 2 ∨ f = 3 := by omega
      rcases h4' with rfl | rfl | rfl | rfl
      all_goals
        subst hw
        simp only
        (repeat' (first|(with_reducible first|(refine hK _ _ ?_;clear hK K)|(refine hA ?_;clear hA hB A B)|(refine hK _ ?_;clear hK K))|((with_reducible refine gO ?_);(first|((with_reducible first|refine z25 ?_|refine z26 ?_);intro K hK;(conv=>whnf))|(with_reducible refine z0 ?_)))|((first|((with_reducible refine gI ?_);(first|((with_reducible refine NIf.decY ?s ?_);case s=>omega)|((with_reducible refine NIf.yes ?s ?_);case s=>rfl)))|(with_reducible refine gN ?_;first|refine NN.lit ?_|refine NN.a1 ?_)|((with_reducible refine gH ?_;refine NH.mk ?s ?_);case s=>(and_intros<;>first|with_reducible rfl|((with_reducible refine gOnes ?_);rfl)|((with_reducible refine gLen ?_);rfl)|omega))|((with_reducible refine gC ?_);(first|((with_reducible refine NCall.isF 115 ?_);refine NCall.pureE (hi) ?_)|((with_reducible refine NCall.isF 116 ?_);refine NCall.pureE (ht) ?_))))<;>(conv=>whnf))|((with_reducible refine gX ?_);(first|(with_reducible first|refine z3 ?_|refine z4 ?_|refine z8 ?_)|((with_reducible refine z29 ?_);intro A B hA hB;(conv=>whnf))))|(with_reducible first|refine z1 ?_|refine z2 ?_)|((with_reducible refine gR ?_);((refine z31 rfl ?_);intro K hK;(conv=>whnf)))|((with_reducible refine gF ?_);((refine z33 rfl ?_);intro K hK;(conv=>whnf)))|((intro _;skip)<;>(conv=>whnf))))
        all_goals rfl
    · rw [if_neg (fun h => hv h.2)] at hw
      subst hw
      simp only
      (repeat' (first|(with_reducible first|(refine hK _ _ ?_;clear hK K)|(refine hB ?_;clear hA hB A B)|(refine hK _ ?_;clear hK K))|((with_reducible refine gO ?_);(first|((with_reducible first|refine z25 ?_|refine z26 ?_);intro K hK;(conv=>whnf))|(with_reducible refine z0 ?_)))|((first|((with_reducible refine gI ?_);(first|((with_reducible refine NIf.decY ?s ?_);case s=>assumption)|((with_reducible refine NIf.decN ?s ?_);case s=>first|assumption|omega)|((with_reducible refine NIf.yes ?s ?_);case s=>rfl)|((with_reducible refine NIf.no ?s ?_);case s=>rfl)|(with_reducible refine NIf.dec (fun _=>?_) (fun _=>?_))))|((with_reducible refine gH ?_;refine NH.mk ?s ?_);case s=>(and_intros<;>first|with_reducible rfl|((with_reducible refine gOnes ?_);rfl)|((with_reducible refine gLen ?_);rfl)))|((with_reducible refine gC ?_);(first|((with_reducible refine NCall.isF 115 ?_);refine NCall.pureE (hi) ?_)|((with_reducible refine NCall.isF 116 ?_);refine NCall.pureE (ht) ?_))))<;>(conv=>whnf))|((with_reducible refine gX ?_);(first|(with_reducible first|refine z3 ?_|refine z4 ?_|refine z6 ?_|refine z8 ?_)|((with_reducible refine z29 ?_);intro A B hA hB;(conv=>whnf))))|(with_reducible first|refine z1 ?_|refine z2 ?_)|((with_reducible refine gR ?_);((refine z31 rfl ?_);intro K hK;(conv=>whnf)))|((with_reducible refine gF ?_);((refine z33 rfl ?_);intro K hK;(conv=>whnf)))|((intro _;skip)<;>(conv=>whnf))))
      all_goals first | rfl | (exfalso; omega)
  · have hi := is27_c f false (by simpa using h4)
    rw [if_neg (fun h => h4 h.1)] at hw
    rw [hw]
    obtain ⟨a0, a, b, c, d⟩ := s
    simp only
    (repeat' (first|(with_reducible first|(refine hK _ _ ?_;clear hK K)|(refine hB ?_;clear hA hB A B)|(refine hK _ ?_;clear hK K))|((with_reducible refine gO ?_);(first|((with_reducible first|refine z25 ?_|refine z26 ?_);intro K hK;(conv=>whnf))|(with_reducible refine z0 ?_)))|((first|((with_reducible refine gI ?_);(((with_reducible refine NIf.no ?s ?_);case s=>rfl)))|((with_reducible refine gH ?_;refine NH.mk ?s ?_);case s=>(and_intros<;>first|with_reducible rfl|((with_reducible refine gOnes ?_);rfl)|((with_reducible refine gLen ?_);rfl)))|((with_reducible refine gC ?_;refine NCall.isF 115 ?_);refine NCall.pureE (hi) ?_))<;>(conv=>whnf))|((with_reducible refine gX ?_);(first|(with_reducible first|refine z3 ?_|refine z4 ?_|refine z6 ?_|refine z8 ?_)|((with_reducible refine z29 ?_);intro A B hA hB;(conv=>whnf))))|(with_reducible first|refine z1 ?_|refine z2 ?_)|((with_reducible refine gR ?_);((refine z31 rfl ?_);intro K hK;(conv=>whnf)))|((with_reducible refine gF ?_);((refine z33 rfl ?_);intro K hK;(conv=>whnf)))|((intro _;skip)<;>(conv=>whnf))))
    all_goals rfl
theorem set27_c (k f v : Int) (p0 p1 p2 : Int) (pv uv : AV) (s : Po.S) : NCall Tryz.prog 62 [.agg [.int .i64 k, .int .i64 p0, .int .i64 p1, .int .i64 p2, pv, .int .i64 f, .int .i64 v, uv], .agg s.av] [] fun r _ => r = .agg (Po.put f v s).av := by
  refine NCall.fits (K := fun r m => r = .agg (Po.put f v s).av) ?_ fun r m' h => ⟨r, _, rfl, MemFits.eq rfl, h⟩
  have cw := with27_c s f v
  have hp : (Po.withS f v s).port = s.port := by unfold Po.withS; repeat' split
                                                 all_goals rfl
  have hput : Po.put f v s = if f = 4 then { s with port := v } else Po.withS f v s := rfl
  refine ncall_of Tryz.func62 rfl (by decide) ?_
  unfold Po.S.av
  generalize Po.put f v s = E at *
  generalize Po.withS f v s = W at *
  obtain ⟨w, w0, w1, w2, w3⟩ := W
  obtain ⟨a0, a, b, c, d⟩ := s
  simp only at hp cw
  subst hp
  by_cases h4 : f = 4
  · rw [if_pos h4] at hput
    subst hput h4
    simp only
    (repeat' (first|(with_reducible first|(refine hK _ _ ?_;clear hK K)|(refine hA ?_;clear hA hB A B)|(refine hK _ ?_;clear hK K))|((with_reducible refine gO ?_);(first|((with_reducible refine z25 ?_);intro K hK;(conv=>whnf))|(with_reducible refine z0 ?_)))|((first|(with_reducible refine gI ?_;refine NIf.decY ?s ?_;case s=>rfl)|(with_reducible refine gN ?_;refine NN.a5 ?_)|((with_reducible refine gH ?_;refine NH.mk ?s ?_);case s=>(and_intros<;>first|with_reducible rfl|((with_reducible refine gOnes ?_);rfl)|((with_reducible refine gLen ?_);rfl))))<;>(conv=>whnf))|((with_reducible refine gX ?_);(first|(with_reducible first|refine z3 ?_|refine z4 ?_|refine z8 ?_)|((with_reducible refine z29 ?_);intro A B hA hB;(conv=>whnf))))|(with_reducible first|refine z1 ?_|refine z2 ?_|refine z12 ?_)|((with_reducible refine gR ?_);((refine z31 rfl ?_);intro K hK;(conv=>whnf)))|((with_reducible refine gF ?_);((refine z33 rfl ?_);intro K hK;(conv=>whnf)))|((intro _;skip)<;>(conv=>whnf))))
    all_goals rfl
  · rw [if_neg h4] at hput
    subst hput
    simp only
    (repeat' (first|(with_reducible first|(refine hK _ _ ?_;clear hK K)|(refine hB ?_;clear hA hB A B)|(refine hK _ ?_;clear hK K))|((with_reducible refine gO ?_);(first|((with_reducible refine z25 ?_);intro K hK;(conv=>whnf))|(with_reducible refine z0 ?_)))|((first|((with_reducible refine gI ?_);(((with_reducible refine NIf.decN ?s ?_);case s=>assumption)))|(with_reducible refine gN ?_;refine NN.a5 ?_)|((with_reducible refine gH ?_;refine NH.mk ?s ?_);case s=>(and_intros<;>first|with_reducible rfl|((with_reducible refine gOnes ?_);rfl)|((with_reducible refine gLen ?_);rfl)))|((with_reducible refine gC ?_;refine NCall.isF 88 ?_);refine NCall.pureE (cw) ?_))<;>(conv=>whnf))|((with_reducible refine gX ?_);(first|(with_reducible first|refine z3 ?_|refine z4 ?_|refine z6 ?_|refine z8 ?_)|((with_reducible refine z29 ?_);intro A B hA hB;(conv=>whnf))))|(with_reducible first|refine z1 ?_|refine z2 ?_)|((with_reducible refine gR ?_);((refine z31 rfl ?_);intro K hK;(conv=>whnf)))|((with_reducible refine gF ?_);((refine z33 rfl ?_);intro K hK;(conv=>whnf)))|((intro _;skip)<;>(conv=>whnf))))
    all_goals rfl
theorem nan27_c (n : Int) : NCall Tryz.prog 91 [.int .i64 n] [] fun r _ => r = .bool false := by
  refine ncall_of Tryz.func91 rfl (by decide) ?_
  (repeat' (first|(with_reducible first|(refine hK _ _ ?_;clear hK K)|(refine hK _ ?_;clear hK K))|((with_reducible refine gO ?_);(first|((with_reducible refine z25 ?_);intro K hK;(conv=>whnf))|(with_reducible refine z0 ?_)))|(with_reducible refine gX ?_;first|refine z3 ?_|refine z4 ?_|refine z8 ?_)|(with_reducible first|refine z1 ?_|refine z2 ?_)|((with_reducible refine gR ?_);((refine z31 rfl ?_);intro K hK;(conv=>whnf)))|((with_reducible refine gF ?_);((refine z33 rfl ?_);intro K hK;(conv=>whnf)))))
  all_goals simp
theorem compare27_c (a b : Int) : NCall Tryz.prog 68 [.int .i64 a, .int .i64 b] [] fun r _ => r = .int .i64 (Po.cmpI a b) := by
  have ca := nan27_c a
  have cb := nan27_c b
  have hc : Po.cmpI a b = if a < b then -1 else if b < a then 1 else 0 := rfl
  generalize Po.cmpI a b = c at *
  refine ncall_of Tryz.func68 rfl (by decide) ?_
  by_cases h1 : a < b
  · rw [if_pos h1] at hc
    (repeat' (first|(with_reducible first|(refine hK _ _ ?_;clear hK K)|(refine hA ?_;clear hA hB A B)|(refine hB ?_;clear hA hB A B)|(refine hK _ ?_;clear hK K))|((with_reducible refine gO ?_);(first|((with_reducible refine z25 ?_);intro K hK;(conv=>whnf))|(with_reducible refine z0 ?_)))|((first|((with_reducible refine gI ?_);(first|((with_reducible refine NIf.decY ?s ?_);case s=>assumption)|((with_reducible refine NIf.no ?s ?_);case s=>rfl)))|((with_reducible refine gC ?_);(first|((with_reducible refine NCall.isF 91 ?_);refine NCall.pureE (ca) ?_)|((with_reducible refine NCall.isF 91 ?_);refine NCall.pureE (cb) ?_))))<;>(conv=>whnf))|((with_reducible refine gX ?_);(first|(with_reducible first|refine z3 ?_|refine z4 ?_|refine z6 ?_|refine z8 ?_)|((with_reducible refine z29 ?_);intro A B hA hB;(conv=>whnf))))|(with_reducible first|refine z1 ?_|refine z2 ?_|refine z12 ?_)|((with_reducible refine gR ?_);((refine z31 rfl ?_);intro K hK;(conv=>whnf)))|((with_reducible refine gF ?_);((refine z33 rfl ?_);intro K hK;(conv=>whnf)))))
    all_goals first | (rw [hc]) | (exfalso; omega)
  · rw [if_neg h1] at hc
    by_cases h2 : b < a
    · rw [if_pos h2] at hc
      (repeat' (first|(with_reducible first|(refine hK _ _ ?_;clear hK K)|(refine hA ?_;clear hA hB A B)|(refine hB ?_;clear hA hB A B)|(refine hK _ ?_;clear hK K))|((with_reducible refine gO ?_);(first|((with_reducible refine z25 ?_);intro K hK;(conv=>whnf))|(with_reducible refine z0 ?_)))|((first|((with_reducible refine gI ?_);(first|((with_reducible refine NIf.decY ?s ?_);case s=>assumption)|((with_reducible refine NIf.decN ?s ?_);case s=>assumption)|((with_reducible refine NIf.no ?s ?_);case s=>rfl)))|((with_reducible refine gC ?_);(first|((with_reducible refine NCall.isF 91 ?_);refine NCall.pureE (ca) ?_)|((with_reducible refine NCall.isF 91 ?_);refine NCall.pureE (cb) ?_))))<;>(conv=>whnf))|((with_reducible refine gX ?_);(first|(with_reducible first|refine z3 ?_|refine z4 ?_|refine z6 ?_|refine z8 ?_)|((with_reducible refine z29 ?_);intro A B hA hB;(conv=>whnf))))|(with_reducible first|refine z1 ?_|refine z2 ?_|refine z12 ?_)|((with_reducible refine gR ?_);((refine z31 rfl ?_);intro K hK;(conv=>whnf)))|((with_reducible refine gF ?_);((refine z33 rfl ?_);intro K hK;(conv=>whnf)))))
      all_goals first | (rw [hc]) | (exfalso; omega)
    · rw [if_neg h2] at hc
      (repeat' (first|(with_reducible first|(refine hK _ _ ?_;clear hK K)|(refine hB ?_;clear hA hB A B)|(refine hK _ ?_;clear hK K))|((with_reducible refine gO ?_);(first|((with_reducible refine z25 ?_);intro K hK;(conv=>whnf))|(with_reducible refine z0 ?_)))|((first|((with_reducible refine gI ?_);(first|((with_reducible refine NIf.decN ?s ?_);case s=>assumption)|((with_reducible refine NIf.no ?s ?_);case s=>rfl)))|((with_reducible refine gC ?_);(first|((with_reducible refine NCall.isF 91 ?_);refine NCall.pureE (ca) ?_)|((with_reducible refine NCall.isF 91 ?_);refine NCall.pureE (cb) ?_))))<;>(conv=>whnf))|((with_reducible refine gX ?_);(first|(with_reducible first|refine z3 ?_|refine z4 ?_|refine z6 ?_|refine z8 ?_)|((with_reducible refine z29 ?_);intro A B hA hB;(conv=>whnf))))|(with_reducible first|refine z1 ?_|refine z2 ?_)|((with_reducible refine gR ?_);((refine z31 rfl ?_);intro K hK;(conv=>whnf)))|((with_reducible refine gF ?_);((refine z33 rfl ?_);intro K hK;(conv=>whnf)))))
      all_goals first | (rw [hc]) | (exfalso; omega)
end Go.Proofs.YtngodakgbldlpaaGreatDoor
namespace Go.Proofs.YtngodakgbldlpaaGreatDoor
open Go.Sx
set_option maxRecDepth 20000
set_option linter.unusedSimpArgs false
set_option linter.unusedVariables false
set_option maxHeartbeats 4000000
set_option linter.unusedVariables false
namespace Po
abbrev IRow (F : Heap) (v : Value) (l : List Int) : Prop := RowF F 1 (fun x us => us = [.int .i64 x]) v l
theorem IRow.at1 {F : Heap} {v : Value} {l : List Int} (h : IRow F v l) {i : Nat} {x : Int} (hx : l[i]? = some x) : F.c ((addrOf v).add i) (.int .i64 x) := by
  obtain ⟨us, rfl, _, h2⟩ := h.at_ i x hx
  rw [Nat.mul_one] at h2
  exact h2.1
def cmpL : List Int → List Int → Int
  | x :: a, y :: b => if cmpI x y ≠ 0 then cmpI x y else cmpL a b
  | _, _ => 0
theorem cmpL_nil (b : List Int) : cmpL [] b = 0 := by cases b <;> rfl
theorem cmpL_drop {a b : List Int} {i : Nat} {x y : Int} (hx : a[i]? = some x) (hy : b[i]? = some y) : cmpL (a.drop i) (b.drop i) = if cmpI x y ≠ 0 then cmpI x y else cmpL (a.drop (i + 1)) (b.drop (i + 1)) := by
  obtain ⟨h1, rfl⟩ := List.getElem?_eq_some_iff.1 hx
  obtain ⟨h2, rfl⟩ := List.getElem?_eq_some_iff.1 hy
  rw [List.drop_eq_getElem_cons h1, List.drop_eq_getElem_cons h2, cmpL]
theorem cmpS_L (x y : S) : cmpS x y = if cmpI x.port y.port ≠ 0 then cmpI x.port y.port else cmpL [x.p0, x.p1, x.p2, x.p3] [y.p0, y.p1, y.p2, y.p3] := by
  unfold cmpS
  simp only [cmpL]
  repeat' split
  all_goals first | rfl | omega
end Po
theorem cmpL_c (F : Heap) (v w : Value) (a b : List Int) (hv : Po.IRow F v a) (hw : Po.IRow F w b) (hl : a.length = b.length) (hn : a.length ≤ 1000) :
    NCall Tryz.prog 69 [.hs v a.length, .hs w b.length] [hpB F] fun r m => r = .int .i64 (Po.cmpL a b) ∧ m = [hpB F] := by
  refine NCall.fits (K := fun r m => r = .int .i64 (Po.cmpL a b) ∧ MemFits m [hpB F]) ?_ fun r m' h => ⟨r, _, rfl, h.2, h.1, rfl⟩
  have hok := hv.ok
  have hok2 := hw.ok
  refine ncall_of Tryz.func69 rfl (by decide) ?_
  (repeat' (first|(with_reducible first|(refine hK _ _ ?_;clear hK K)|(refine hK _ ?_;clear hK K))|((with_reducible refine gO ?_);(first|((with_reducible refine z25 ?_);intro K hK;(conv=>whnf))|(with_reducible refine z0 ?_)))|((((with_reducible refine gH ?_;refine NH.mk ?s ?_);case s=>(and_intros<;>omega)))<;>(conv=>whnf))|(with_reducible refine gX ?_;first|refine z3 ?_|refine z4 ?_|refine z5 ?_)|(with_reducible first|refine z1 ?_|refine z2 ?_)|((with_reducible refine gF ?_);((refine z33 rfl ?_);intro K hK;(conv=>whnf)))))
  refine st_auto (α := Nat) (fun i => i ≤ a.length ∧ Po.cmpL a b = Po.cmpL (a.drop i) (b.drop i)) (fun i => [.keep, .keep, .keep, .keep, .set (.int .i64 0), .drop, .drop, .drop, .drop, .keep, .keep, .set (.int .i64 i), .drop, .drop, .drop, .drop, .drop, .drop, .drop, .drop, .drop, .drop, .drop, .drop, .drop, .drop, .drop, .drop, .drop, .drop, .drop, .keep, .keep, .keep, .keep, .keep]) (fun _ => []) (fun i => a.length - i) 0 ⟨Nat.zero_le _, rfl⟩ ?_ (MemFits.eq rfl) ?_
  · repeat (first|exact FitsSl.nil|refine FitsSl.any ?_|refine FitsSl.cons (Fit1.int (by first | rfl | omega)) ?_|refine FitsSl.cons (Fit1.same (by intro h; cases h) (by with_reducible rfl)) ?_)
  (intro i ⟨hi, he⟩; intro K hK; (conv=>whnf); refine hK _ _ ?_; clear hK K)
  by_cases hlt : i < a.length
  · have hx : a[i]? = some a[i] := List.getElem?_eq_getElem hlt
    have hy : b[i]? = some (b[i]'(by omega)) := List.getElem?_eq_getElem (by omega)
    have c0 := hv.at1 hx
    have c1 := hw.at1 hy
    rw [Po.cmpL_drop hx hy] at he
    generalize a[i] = x at *
    generalize (b[i]'(by omega)) = y at *
    have cc := compare27_c x y
    generalize Po.cmpI x y = c at *
    by_cases hc : c = 0
    · rw [if_neg (by omega)] at he
      (repeat' (first|(with_reducible first|(refine hK _ _ ?_;clear hK K)|(refine hA ?_;clear hA hB A B)|(refine hB ?_;clear hA hB A B))|((with_reducible refine gO ?_);(first|((with_reducible refine z25 ?_);intro K hK;(conv=>whnf))|(with_reducible refine z0 ?_)))|((first|((with_reducible refine gV ?_);(((with_reducible refine NV.i64 ?s ?_);case s=>omega)))|((with_reducible refine gI ?_);(first|with_reducible refine NIf.not_ ?_|((with_reducible refine NIf.decY ?s ?_);case s=>first|assumption|omega)|((with_reducible refine NIf.decN ?s ?_);case s=>omega)))|(with_reducible refine gN ?_;first|refine NN.cast ?_|refine NN.a2 ?_)|((with_reducible refine gH ?_;refine NH.mk ?s ?_);case s=>(and_intros<;>omega))|((with_reducible refine gC ?_;refine NCall.isF 68 ?_);refine NCall.pureE (cc) ?_)|(with_reducible refine NLd.of (by with_reducible assumption) ?_))<;>(conv=>whnf))|((with_reducible refine gX ?_);(first|(with_reducible first|refine z3 ?_|refine z4 ?_|refine z5 ?_|refine z6 ?_)|((with_reducible refine z29 ?_);intro A B hA hB;(conv=>whnf))))|(with_reducible first|refine z1 ?_|refine z2 ?_|refine z9 ?_)))
      all_goals first | (exfalso; omega) | skip
      all_goals
        refine st_round (i + 1) ⟨hlt, he⟩ (by omega) ?_ (MemFits.pre 1 rfl)
        repeat (first|exact FitsSl.nil|refine FitsSl.any ?_|refine FitsSl.cons (Fit1.int (by first | rfl | omega)) ?_|refine FitsSl.cons (Fit1.same (by intro h; cases h) (by with_reducible rfl)) ?_)
    · rw [if_pos hc] at he
      rw [he]
      (repeat' (first|(with_reducible first|(refine hK _ _ ?_;clear hK K)|(refine hA ?_;clear hA hB A B)|(refine hB ?_;clear hA hB A B)|(refine hK _ ?_;clear hK K))|((with_reducible refine gO ?_);(first|((with_reducible refine z25 ?_);intro K hK;(conv=>whnf))|(with_reducible refine z0 ?_)))|((first|((with_reducible refine gI ?_);(first|with_reducible refine NIf.not_ ?_|((with_reducible refine NIf.decY ?s ?_);case s=>omega)|((with_reducible refine NIf.decN ?s ?_);case s=>first|assumption|omega)))|(with_reducible refine gN ?_;first|refine NN.cast ?_|refine NN.a2 ?_)|((with_reducible refine gH ?_;refine NH.mk ?s ?_);case s=>(and_intros<;>omega))|((with_reducible refine gC ?_;refine NCall.isF 68 ?_);refine NCall.pureE (cc) ?_)|(with_reducible refine NLd.of (by with_reducible assumption) ?_))<;>(conv=>whnf))|((with_reducible refine gX ?_);(first|(with_reducible first|refine z3 ?_|refine z4 ?_|refine z5 ?_|refine z6 ?_|refine z8 ?_)|((with_reducible refine z29 ?_);intro A B hA hB;(conv=>whnf))))|(with_reducible first|refine z1 ?_|refine z2 ?_|refine z12 ?_|refine z13 ?_|refine z20 ?_)|((with_reducible refine gR ?_);((refine z31 rfl ?_);intro K hK;(conv=>whnf)))))
      all_goals first | (exfalso; omega) | exact ⟨rfl, MemFits.pre 1 rfl⟩
  · obtain rfl : i = a.length := by omega
    rw [List.drop_length, Po.cmpL_nil] at he
    rw [he]
    (repeat' (first|(with_reducible first|(refine hK _ _ ?_;clear hK K)|(refine hB ?_;clear hA hB A B)|(refine hK _ ?_;clear hK K))|((with_reducible refine gO ?_);(first|((with_reducible refine z25 ?_);intro K hK;(conv=>whnf))|(with_reducible refine z0 ?_)))|((first|((with_reducible refine gI ?_);(((with_reducible refine NIf.decN ?s ?_);case s=>omega)))|((with_reducible refine gH ?_;refine NH.mk ?s ?_);case s=>(and_intros<;>omega)))<;>(conv=>whnf))|((with_reducible refine gX ?_);(first|(with_reducible first|refine z3 ?_|refine z4 ?_|refine z6 ?_|refine z7 ?_|refine z8 ?_)|((with_reducible refine z29 ?_);intro A B hA hB;(conv=>whnf))))|(with_reducible first|refine z1 ?_|refine z2 ?_|refine z10 ?_|refine z11 ?_|refine z19 ?_)|((with_reducible refine gR ?_);((refine z31 rfl ?_);intro K hK;(conv=>whnf)))))
    all_goals first | (exfalso; omega) | exact ⟨rfl, MemFits.pre 1 rfl⟩
theorem or27_c (t : TypeId) (v : Value) (a b : Int) : NCall Tryz.prog 67 [.sl 0 v 2] [⟨addrOf v, [.int .i64 a, .int .i64 b], .row v t 1 2⟩] fun r m => r = .int .i64 (if a ≠ 0 then a else b) ∧ m = [⟨addrOf v, [.int .i64 a, .int .i64 b], .row v t 1 2⟩] := by
  refine ncall_of Tryz.func67 rfl (by decide) ?_
  by_cases ha : a = 0
  · rw [if_neg (by omega)]
    by_cases hb : b = 0
    · (repeat' (first|(with_reducible first|(refine hK _ _ ?_;clear hK K)|(refine hA ?_;clear hA hB A B)|(refine hB ?_;clear hA hB A B)|(refine hK _ ?_;clear hK K))|((with_reducible refine gO ?_);(first|((with_reducible refine z25 ?_);intro K hK;(conv=>whnf))|(with_reducible refine z0 ?_)))|((first|((with_reducible refine gV ?_);(((with_reducible refine NV.i64 ?s ?_);case s=>omega)))|((with_reducible refine gI ?_);(first|with_reducible refine NIf.not_ ?_|((with_reducible refine NIf.decY ?s ?_);case s=>first|assumption|omega)|((with_reducible refine NIf.decN ?s ?_);case s=>omega)))|(with_reducible refine gN ?_;first|refine NN.lit ?_|refine NN.a2 ?_|refine NN.keep ?_)|((with_reducible refine gH ?_;refine NH.mk ?s ?_);case s=>(and_intros<;>first|with_reducible rfl|omega)))<;>(conv=>whnf))|((with_reducible refine gX ?_);(first|(with_reducible refine st_rounds 4 ?_)|(with_reducible first|refine z3 ?_|refine z4 ?_|refine z5 ?_|refine z6 ?_|refine z7 ?_|refine z8 ?_)|((with_reducible refine z29 ?_);intro A B hA hB;(conv=>whnf))))|(with_reducible first|refine z1 ?_|refine z2 ?_|refine z9 ?_|refine z10 ?_|refine z11 ?_|refine z21 ?_|refine z22 ?_)|((with_reducible refine gR ?_);((refine z31 rfl ?_);intro K hK;(conv=>whnf)))|((with_reducible refine gF ?_);((refine z33 rfl ?_);intro K hK;(conv=>whnf)))))
      all_goals first | (exfalso; omega) | exact ⟨by rw [hb], rfl⟩
    · (repeat' (first|(with_reducible first|(refine hK _ _ ?_;clear hK K)|(refine hA ?_;clear hA hB A B)|(refine hB ?_;clear hA hB A B)|(refine hK _ ?_;clear hK K))|((with_reducible refine gO ?_);(first|((with_reducible refine z25 ?_);intro K hK;(conv=>whnf))|(with_reducible refine z0 ?_)))|((first|((with_reducible refine gV ?_);(((with_reducible refine NV.i64 ?s ?_);case s=>omega)))|((with_reducible refine gI ?_);(first|with_reducible refine NIf.not_ ?_|((with_reducible refine NIf.decY ?s ?_);case s=>first|assumption|omega)|((with_reducible refine NIf.decN ?s ?_);case s=>assumption)))|(with_reducible refine gN ?_;first|refine NN.lit ?_|refine NN.a2 ?_|refine NN.keep ?_)|((with_reducible refine gH ?_;refine NH.mk ?s ?_);case s=>(and_intros<;>first|with_reducible rfl|omega)))<;>(conv=>whnf))|((with_reducible refine gX ?_);(first|(with_reducible refine st_rounds 4 ?_)|(with_reducible first|refine z3 ?_|refine z4 ?_|refine z5 ?_|refine z6 ?_|refine z8 ?_)|((with_reducible refine z29 ?_);intro A B hA hB;(conv=>whnf))))|(with_reducible first|refine z1 ?_|refine z2 ?_|refine z9 ?_|refine z12 ?_|refine z13 ?_|refine z21 ?_|refine z23 ?_)|((with_reducible refine gR ?_);((refine z31 rfl ?_);intro K hK;(conv=>whnf)))|((with_reducible refine gF ?_);((refine z33 rfl ?_);intro K hK;(conv=>whnf)))))
      all_goals first | (exfalso; omega) | exact ⟨rfl, rfl⟩
  · rw [if_pos ha]
    (repeat' (first|(with_reducible first|(refine hK _ _ ?_;clear hK K)|(refine hA ?_;clear hA hB A B)|(refine hK _ ?_;clear hK K))|((with_reducible refine gO ?_);(first|((with_reducible refine z25 ?_);intro K hK;(conv=>whnf))|(with_reducible refine z0 ?_)))|((first|((with_reducible refine gI ?_);(first|with_reducible refine NIf.not_ ?_|((with_reducible refine NIf.decY ?s ?_);case s=>omega)|((with_reducible refine NIf.decN ?s ?_);case s=>assumption)))|(with_reducible refine gN ?_;first|refine NN.lit ?_|refine NN.a2 ?_)|((with_reducible refine gH ?_;refine NH.mk ?s ?_);case s=>(and_intros<;>first|with_reducible rfl|omega)))<;>(conv=>whnf))|((with_reducible refine gX ?_);(first|(with_reducible refine st_rounds 4 ?_)|(with_reducible first|refine z3 ?_|refine z4 ?_|refine z5 ?_|refine z6 ?_|refine z8 ?_)|((with_reducible refine z29 ?_);intro A B hA hB;(conv=>whnf))))|(with_reducible first|refine z1 ?_|refine z2 ?_|refine z12 ?_|refine z13 ?_|refine z23 ?_)|((with_reducible refine gR ?_);((refine z31 rfl ?_);intro K hK;(conv=>whnf)))|((with_reducible refine gF ?_);((refine z33 rfl ?_);intro K hK;(conv=>whnf)))))
    all_goals first | (exfalso; omega) | exact ⟨rfl, rfl⟩
end Go.Proofs.YtngodakgbldlpaaGreatDoor
