/-
  Policies: the numbers of a field. Plain.
-/
import Derived.Test.YtpkjnmddembkjaaGreatDoorPo1p
import Derived.Test.YtpkjnmddembkjaaGreatDoorPd11p
namespace Go.Proofs.YtpkjnmddembkjaaGreatDoor
open Go.Sx
set_option maxRecDepth 20000
set_option linter.unusedVariables false
namespace Po
mutual
def vals (f : Int) : T → List Int
  | .mk k p a v l => (if k = 2 ∧ a = f then [v] else []) ++ Pd.values f p ++ valsL f l
def valsL (f : Int) : List T → List Int
  | [] => []
  | x :: l => vals f x ++ valsL f l
end
theorem valsL_append (f : Int) (a b : List T) : valsL f (a ++ b) = valsL f a ++ valsL f b := by
  induction a with
  | nil => rfl
  | cons p a ih => rw [List.cons_append, valsL, valsL, ih, List.append_assoc]
theorem valsL_take (f : Int) {l : List T} {k : Nat} (h : k < l.length) : valsL f (l.take (k + 1)) = valsL f (l.take k) ++ vals f l[k] := by
  rw [List.take_add_one, List.getElem?_eq_getElem h, valsL_append]
  congr 1
  show vals f l[k] ++ [] = _
  simp
theorem once_len : ∀ l : List Int, (Pd.once l).length ≤ l.length
  | [] => by simp [Pd.once]
  | [x] => by simp [Pd.once]
  | x :: y :: l => by
    have := once_len (y :: l)
    rw [Pd.once]
    split
    · simp only [List.length_cons] at *; omega
    · simp only [List.length_cons] at *; omega
theorem pvalues_len (f : Int) (p : Pd.T) : (Pd.values f p).length ≤ Pd.size p := by
  have h1 := once_len ((Pd.vals f p).mergeSort fun x y => decide (x ≤ y))
  rw [List.length_mergeSort] at h1
  exact Nat.le_trans h1 (Pd.vals_len f p)
mutual
theorem vals_len (f : Int) : ∀ x : T, (vals f x).length ≤ tot x
  | .mk k p a v l => by
    have := valsL_len f l
    have := pvalues_len f p
    rw [vals, tot, List.length_append, List.length_append]
    split
    · simp; omega
    · simp; omega
theorem valsL_len (f : Int) : ∀ l : List T, (valsL f l).length ≤ totL l
  | [] => by simp [valsL]
  | p :: l => by have := vals_len f p; have := valsL_len f l; rw [valsL, totL, List.length_append]; omega
end
theorem right_fits {p : Pd.T} (h : Pd.right p = true) : Pd.fits p = true := by
  unfold Pd.right at h
  simp only [Bool.and_eq_true, decide_eq_true_eq] at h
  exact h.1
def values (f : Int) (x : T) : List Int := Pd.once ((vals f x).mergeSort fun x y => decide (x ≤ y))
theorem values_len (f : Int) (x : T) : (values f x).length ≤ tot x := by
  have h1 := once_len ((vals f x).mergeSort fun x y => decide (x ≤ y))
  rw [List.length_mergeSort] at h1
  exact Nat.le_trans h1 (vals_len f x)
end Po
end Go.Proofs.YtpkjnmddembkjaaGreatDoor

