/-
  Events, as cells.
-/
import Derived.Test.YtijkmhmgigaieaaTc5
namespace Go.Proofs.Ytijkmhmgigaieaa
open Go.Sx
set_option linter.unusedVariables false
namespace Tc
def eA (l : List E) : List AV := l.flatMap E.A
theorem eA_den (l : List E) : denL (eA l) = l.flatMap E.V := by
  induction l with
  | nil => rfl
  | cons x l ih => unfold eA at *; rw [List.flatMap_cons, List.flatMap_cons, denL_append, ih]; rfl
theorem eA_len (l : List E) : (eA l).length = l.length * 6 := by
  induction l with
  | nil => rfl
  | cons x l ih => unfold eA at *; rw [List.flatMap_cons, List.length_append, ih, List.length_cons]; show 6 + _ = _; omega
theorem eA_reads {F : Heap} {v : Value} {l : List E} (h : ERow F v l) : CellsF F (addrOf v) 0 (denL (eA l)) := by
  rw [eA_den]
  exact (RowF.all (enc := E.V) h).1
theorem ones_eA (l : List E) : Go.Sx.ones (eA l) = true := by
  induction l with
  | nil => rfl
  | cons x l ih => unfold eA at *; rw [List.flatMap_cons]; simpa [E.A, Go.Sx.ones] using ih
def E.Ok (e : E) : Prop := (-9223372036854775808 ≤ e.kind ∧ e.kind ≤ 9223372036854775807) ∧ (-9223372036854775808 ≤ e.real ∧ e.real ≤ 9223372036854775807) ∧ (-9223372036854775808 ≤ e.u ∧ e.u ≤ 9223372036854775807) ∧ (-9223372036854775808 ≤ e.sw ∧ e.sw ≤ 9223372036854775807) ∧ (-9223372036854775808 ≤ e.x ∧ e.x ≤ 9223372036854775807) ∧ (-9223372036854775808 ≤ e.y ∧ e.y ≤ 9223372036854775807)
end Tc
end Go.Proofs.Ytijkmhmgigaieaa


