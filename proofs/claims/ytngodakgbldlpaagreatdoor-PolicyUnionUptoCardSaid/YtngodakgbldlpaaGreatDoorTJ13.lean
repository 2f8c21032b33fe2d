/-
  What comes of a packet, by the document: a field set, a packet in its place, all of two; What comes of a packet, by the document: a packet in its place; all of two; What comes of a packet, by the document: all of two; Run.
-/
import Derived.Test.YtngodakgbldlpaaGreatDoorTPo26
import Derived.Test.YtngodakgbldlpaaGreatDoorTJ12
import Derived.Test.YtngodakgbldlpaaGreatDoorTSxK
import Derived.Test.YtngodakgbldlpaaGreatDoorTJ5
import Derived.Test.YtngodakgbldlpaaGreatDoorTJ4
namespace Go.Proofs.YtngodakgbldlpaaGreatDoor
open Go.Sx
set_option maxRecDepth 20000
set_option linter.unusedSimpArgs false
set_option linter.unusedVariables false
set_option maxHeartbeats 4000000
set_option linter.unusedVariables false
namespace Po
end Po
end Go.Proofs.YtngodakgbldlpaaGreatDoor
namespace Go.Proofs.YtngodakgbldlpaaGreatDoor
open Go.Sx
set_option maxRecDepth 20000
set_option linter.unusedSimpArgs false
set_option linter.unusedVariables false
set_option maxHeartbeats 4000000
set_option linter.unusedVariables false
end Go.Proofs.YtngodakgbldlpaaGreatDoor
namespace Go.Proofs.YtngodakgbldlpaaGreatDoor
open Go.Sx
set_option maxRecDepth 20000
set_option linter.unusedSimpArgs false
set_option linter.unusedVariables false
set_option maxHeartbeats 4000000
set_option linter.unusedVariables false
theorem Fit1.slhs {i n n' : Nat} {v v' : Value} (h : v = v') : Fit1 (.sl i v n) (.hs v' n') := .inr ⟨by simp, by rw [h]; rfl⟩
theorem Po.SRow.mono {F G : Heap} (h : F.le G) {v : Value} {l : List Po.S} (hv : Po.SRow F v l) : Po.SRow G v l := RowF.mono h (fun _ _ h => h) hv
end Go.Proofs.YtngodakgbldlpaaGreatDoor
