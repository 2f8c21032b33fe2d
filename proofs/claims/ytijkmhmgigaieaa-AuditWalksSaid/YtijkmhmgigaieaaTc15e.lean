/-
  Events, as cells.
-/
import Derived.Test.YtijkmhmgigaieaaTc5
namespace Go.Proofs.Ytijkmhmgigaieaa
open Go.Sx
set_option linter.unusedVariables false
namespace Tc
def eA (l : List E) : List AV := l.flatMap E.A
theorem eA_den (l : List E) : denL (eA l) = l.flatMap E.V := by
  induction l with
  | nil => rfl
  | cons x l ih => unfold eA at *; rw [List.flatMap_cons, List.flatMap_cons, denL_append, ih]; rfl
theorem eA_len (l : List E) : (eA l).length = l.length * 6 := by
  induction l with
  | nil => rfl
  | cons x l ih => unfold eA at *; rw [List.flatMap_cons, List.length_append, ih, List.length_cons]; show 6 + _ = _; omega
theorem ones_eA (l : List E) : Go.Sx.ones (eA l) = true := by
  induction l with
  | nil => rfl
  | cons x l ih => unfold eA at *; rw [List.flatMap_cons]; simpa [E.A, Go.Sx.ones] using ih
end Tc
end Go.Proofs.Ytijkmhmgigaieaa


