/-
  Conditions: what they are pushed to; the numbers with which a field is asked. Plain; Policies: the numbers of a field. Plain; Conditions: what they are at a switch. Plain; Whole numbers in a row of one's own: the library's Sort and Compact.
-/
import Derived.Test.YtngodakgbldlpaaGreatDoorTPd1p
import Derived.Test.YtngodakgbldlpaaGreatDoorTJ1
import Derived.Sort.OwnSortedInts
import Derived.Lib.SlicesCompact
import Derived.Test.YtngodakgbldlpaaGreatDoorTSxC
namespace Go.Proofs.YtngodakgbldlpaaGreatDoor
open Go.Sx
set_option maxRecDepth 20000
set_option linter.unusedVariables false
namespace Pd
end Pd
end Go.Proofs.YtngodakgbldlpaaGreatDoor
namespace Go.Proofs.YtngodakgbldlpaaGreatDoor
open Go.Sx
set_option maxRecDepth 20000
set_option linter.unusedVariables false
namespace Po
theorem right_fits {p : Pd.T} (h : Pd.right p = true) : Pd.fits p = true := by
  unfold Pd.right at h
  simp only [Bool.and_eq_true, decide_eq_true_eq] at h
  exact h.1
end Po
end Go.Proofs.YtngodakgbldlpaaGreatDoor
namespace Go.Proofs.YtngodakgbldlpaaGreatDoor
open Go.Sx
set_option maxRecDepth 20000
set_option linter.unusedVariables false
namespace Pd
theorem hits_mk4 (x : At) (f v : Int) (q : T) (l : List T) : hits x (.mk 4 f v (q :: l)) = !hits x q := by rw [hits.eq_def]; simp [hits1]
end Pd
end Go.Proofs.YtngodakgbldlpaaGreatDoor
namespace Go.Proofs.YtngodakgbldlpaaGreatDoor
open Go.Sx
set_option linter.unusedVariables false
set_option maxRecDepth 20000
set_option linter.unusedSimpArgs false
set_option linter.unusedVariables false
namespace Srt
end Srt
namespace Srt
end Srt
namespace Srt
end Srt
end Go.Proofs.YtngodakgbldlpaaGreatDoor
