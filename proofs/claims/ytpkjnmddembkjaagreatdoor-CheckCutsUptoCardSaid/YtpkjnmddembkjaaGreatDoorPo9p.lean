/-
  Policies: what they are at a switch. Plain.
-/
import Derived.Test.YtpkjnmddembkjaaGreatDoorPo7p
import Derived.Test.YtpkjnmddembkjaaGreatDoorCk1p
namespace Go.Proofs.YtpkjnmddembkjaaGreatDoor
open Go.Sx
set_option maxRecDepth 20000
set_option linter.unusedVariables false
namespace Po
def zero : T := .mk 0 noneP 0 0 []
mutual
def spec (sw : Int) : T → T
  | .mk k p f v l => if k = 5 ∧ (Pd.cut sw p).k ≤ 2 then (specL sw l)[((Pd.cut sw p).k - 1).toNat]?.getD zero else .mk k (if k = 1 ∨ k = 5 then Pd.cut sw p else noneP) f v (specL sw l)
def specL (sw : Int) : List T → List T
  | [] => []
  | x :: l => spec sw x :: specL sw l
end
theorem specL_map (sw : Int) (l : List T) : specL sw l = l.map (spec sw) := by
  induction l with
  | nil => rfl
  | cons p l ih => rw [specL, ih]; rfl
theorem spec_mk (sw k : Int) (p : Pd.T) (f v : Int) (l : List T) : spec sw (.mk k p f v l) = if k = 5 ∧ (Pd.cut sw p).k ≤ 2 then (l.map (spec sw))[((Pd.cut sw p).k - 1).toNat]?.getD zero else .mk k (if k = 1 ∨ k = 5 then Pd.cut sw p else noneP) f v (l.map (spec sw)) := by
  rw [spec.eq_def]; simp only [specL_map]
/-- What a fitting policy is made of. -/
theorem fits_iff {k : Int} {p : Pd.T} {f v : Int} {l : List T} : fits (.mk k p f v l) = true ↔ (k = 1 ∧ Pd.right p = true ∧ (f = 0 ∧ v = 0) ∧ l.length = 0 ∨ k = 2 ∧ p = noneP ∧ (0 ≤ f ∧ f ≤ 4) ∧ (0 ≤ v ∧ v ≤ Pd.top f) ∧ l.length = 0 ∨ (k = 3 ∨ k = 4) ∧ p = noneP ∧ (f = 0 ∧ v = 0) ∧ 2 ≤ l.length ∧ l.length ≤ 8 ∨ k = 5 ∧ Pd.right p = true ∧ (f = 0 ∧ v = 0) ∧ l.length = 2) ∧ ∀ x ∈ l, fits x = true := by
  have hl : fitsL l = true ↔ ∀ x ∈ l, fits x = true := by
    induction l with
    | nil => simp [fitsL]
    | cons x l ih => simp only [fitsL, Bool.and_eq_true, ih, List.mem_cons, forall_eq_or_imp]
  have hn : none p = true ↔ p = noneP := Pd.same_eq _ _
  rw [fits, Bool.and_eq_true, hl]
  unfold shape
  rw [decide_eq_true_eq, hn]
end Po
end Go.Proofs.YtpkjnmddembkjaaGreatDoor

