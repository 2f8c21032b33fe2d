/-
  What comes of a packet, by the document: a field set, a packet in its place, all of two; What comes of a packet, by the document: a packet in its place; all of two.
-/
import Derived.Test.YtngodakgbldlpaaGreatDoorJ27
import Derived.Test.YtngodakgbldlpaaGreatDoorJ23
namespace Go.Proofs.YtngodakgbldlpaaGreatDoor
open Go.Sx
set_option maxRecDepth 20000
set_option linter.unusedSimpArgs false
set_option linter.unusedVariables false
set_option maxHeartbeats 4000000
set_option linter.unusedVariables false
namespace Po
end Po
end Go.Proofs.YtngodakgbldlpaaGreatDoor
namespace Go.Proofs.YtngodakgbldlpaaGreatDoor
open Go.Sx
set_option maxRecDepth 20000
set_option linter.unusedSimpArgs false
set_option linter.unusedVariables false
set_option maxHeartbeats 4000000
set_option linter.unusedVariables false
end Go.Proofs.YtngodakgbldlpaaGreatDoor

