/-
  Journals: when a record can follow.
-/
import Derived.Test.YtokpkddeijfjjaaDoorJr1
namespace Go.Proofs.YtokpkddeijfjjaaDoor
open Go.Sx
set_option linter.unusedVariables false
set_option linter.unusedSimpArgs false
namespace Jr
theorem ite_some {α : Type} {c : Prop} {_ : Decidable c} {x : Option α} : (if c then x else none).isSome = true ↔ c ∧ x.isSome = true := by split <;> simp_all
theorem ite_none {α : Type} {c : Prop} {_ : Decidable c} {x : Option α} : (if c then none else x).isSome = true ↔ ¬ c ∧ x.isSome = true := by split <;> simp_all
theorem next_isSome (s : St) (r : Rec) : (next s r).isSome = true ↔
    (r.k = 1 ∧ s.op = false ∧ s.out = 0 ∧ r.u = IntKind.i64.wrap (s.u + 1) ∧ 0 ≤ r.a ∧ r.a < 16 ∧ 0 ≤ r.b ∧ r.b < 1125899906842625) ∨
    (r.k = 7 ∧ r.u = s.u ∧ r.b = 0 ∧ s.op = false ∧ 0 ≤ r.a ∧ r.a < 8 ∧ isOut s.out r.a) ∨
    (r.k = 2 ∧ r.u = s.u ∧ r.b = 0 ∧ s.op = true ∧ s.sure = false ∧ s.canc = false ∧ r.a = s.armed ∧ s.armed < 8) ∨
    (r.k = 3 ∧ r.u = s.u ∧ r.b = 0 ∧ s.op = true ∧ r.a = 0 ∧ s.sure = false ∧ s.canc = false ∧ 0 < s.armed) ∨
    (r.k = 4 ∧ r.u = s.u ∧ r.b = 0 ∧ s.op = true ∧ r.a = 0 ∧ s.canc = false) ∨
    (r.k = 5 ∧ r.u = s.u ∧ r.b = 0 ∧ s.op = true ∧ r.a = 0 ∧ s.sure = true ∧ s.canc = false) ∨
    (r.k = 6 ∧ r.u = s.u ∧ r.b = 0 ∧ s.op = true ∧ s.canc = true ∧ 0 ≤ r.a ∧ r.a < 256) := by
  obtain ⟨u, now, op, target, at_, armed, sure, canc, out⟩ := s
  obtain ⟨k, ru, a, b⟩ := r
  unfold next openK beginOk relOk openOk
  dsimp only
  by_cases k1 : k = 1
  · subst k1; cases op <;> simp [ite_some, ite_none] <;> omega
  by_cases k2 : k = 2
  · subst k2; cases op <;> cases sure <;> cases canc <;> simp [ite_some, ite_none] <;> omega
  by_cases k3 : k = 3
  · subst k3; cases op <;> cases sure <;> cases canc <;> simp [ite_some, ite_none] <;> omega
  by_cases k4 : k = 4
  · subst k4; cases op <;> cases canc <;> simp [ite_some, ite_none] <;> omega
  by_cases k5 : k = 5
  · subst k5; cases op <;> cases sure <;> cases canc <;> simp [ite_some, ite_none] <;> omega
  by_cases k6 : k = 6
  · subst k6; cases op <;> cases canc <;> simp [ite_some, ite_none] <;> omega
  by_cases k7 : k = 7
  · subst k7; by_cases hP : isOut out a <;> cases op <;> simp [ite_some, ite_none, hP] <;> omega
  · simp [k1, k2, k3, k4, k5, k6, k7, ite_some, ite_none]
theorem wrap_pred (x y : Int) (hx : i64 x) (hy : i64 y) : IntKind.i64.wrap (x - 1) = y ↔ x = IntKind.i64.wrap (y + 1) := by
  unfold i64 at *
  rw [IntKind.wrap_i64, IntKind.wrap_i64]
  omega
end Jr
end Go.Proofs.YtokpkddeijfjjaaDoor
