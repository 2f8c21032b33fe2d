/-
  Policies: what they are at a switch. Plain; Policies at a switch: no greater, no deeper, no wider, no more numbers. Plain.
-/
import Derived.Test.YtngodakgbldlpaaGreatDoorJ3
namespace Go.Proofs.YtngodakgbldlpaaGreatDoor
open Go.Sx
set_option maxRecDepth 20000
set_option linter.unusedVariables false
namespace Po
/-- What a fitting policy is made of. -/
theorem fits_iff {k : Int} {p : Pd.T} {f v : Int} {l : List T} : fits (.mk k p f v l) = true ↔ (k = 1 ∧ Pd.right p = true ∧ (f = 0 ∧ v = 0) ∧ l.length = 0 ∨ k = 2 ∧ p = noneP ∧ (0 ≤ f ∧ f ≤ 4) ∧ (0 ≤ v ∧ v ≤ Pd.top f) ∧ l.length = 0 ∨ (k = 3 ∨ k = 4) ∧ p = noneP ∧ (f = 0 ∧ v = 0) ∧ 2 ≤ l.length ∧ l.length ≤ 8 ∨ k = 5 ∧ Pd.right p = true ∧ (f = 0 ∧ v = 0) ∧ l.length = 2) ∧ ∀ x ∈ l, fits x = true := by
  have hl : fitsL l = true ↔ ∀ x ∈ l, fits x = true := by
    induction l with
    | nil => simp [fitsL]
    | cons x l ih => simp only [fitsL, Bool.and_eq_true, ih, List.mem_cons, forall_eq_or_imp]
  have hn : none p = true ↔ p = noneP := Pd.same_eq _ _
  rw [fits, Bool.and_eq_true, hl]
  unfold shape
  rw [decide_eq_true_eq, hn]
theorem right_fits' {x : T} (h : right x = true) : fits x = true := by
  unfold right at h
  simp only [Bool.and_eq_true] at h
  exact h.1
end Po
end Go.Proofs.YtngodakgbldlpaaGreatDoor
namespace Go.Proofs.YtngodakgbldlpaaGreatDoor
open Go.Sx
set_option maxRecDepth 20000
set_option linter.unusedVariables false
namespace Pd
end Pd
namespace Po
theorem wideI_ge : ∀ (l : List T) (n : Nat), n ≤ wideI n l ∧ ∀ x ∈ l, wide x ≤ wideI n l
  | [], n => ⟨Nat.le_refl _, fun x hx => by cases hx⟩
  | y :: l, n => by
    obtain ⟨h1, h2⟩ := wideI_ge l (max n (wide y))
    rw [wideI]
    refine ⟨by omega, fun x hx => ?_⟩
    rcases List.mem_cons.1 hx with rfl | hx
    · omega
    · exact h2 x hx
theorem wide_mk (k : Int) (p : Pd.T) (f v : Int) (l : List T) : wide (.mk k p f v l) = if k = 3 then wideS 1 l else if k = 4 then wideU 0 l else if k = 5 then wideI 0 l else 1 := by rw [wide]
end Po
end Go.Proofs.YtngodakgbldlpaaGreatDoor

