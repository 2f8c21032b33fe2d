/-
  Policies: the numbers of a field. Plain; Conditions: what they are at a switch. Plain.
-/
import Derived.Test.YtngodakgbldlpaaGreatDoorJ1
import Derived.Test.YtngodakgbldlpaaGreatDoorJ2
namespace Go.Proofs.YtngodakgbldlpaaGreatDoor
open Go.Sx
set_option maxRecDepth 20000
set_option linter.unusedVariables false
namespace Po
theorem right_fits {p : Pd.T} (h : Pd.right p = true) : Pd.fits p = true := by
  unfold Pd.right at h
  simp only [Bool.and_eq_true, decide_eq_true_eq] at h
  exact h.1
end Po
end Go.Proofs.YtngodakgbldlpaaGreatDoor
namespace Go.Proofs.YtngodakgbldlpaaGreatDoor
open Go.Sx
set_option maxRecDepth 20000
set_option linter.unusedVariables false
namespace Pd
theorem hits_mk1 (x : At) (f v : Int) (l : List T) : hits x (.mk 1 f v l) = true := by rw [hits.eq_def]; simp
theorem hits_mk2 (x : At) (f v : Int) (l : List T) : hits x (.mk 2 f v l) = false := by rw [hits.eq_def]; simp
end Pd
end Go.Proofs.YtngodakgbldlpaaGreatDoor

