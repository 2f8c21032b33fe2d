/-
  How wide the parts of a policy are. Plain; Conditions: for which packets they hold, by the document.
-/
import Derived.Test.YtngodakgbldlpaaGreatDoorJ5
import Derived.Test.YtngodakgbldlpaaGreatDoorJ15
namespace Go.Proofs.YtngodakgbldlpaaGreatDoor
open Go.Sx
set_option maxRecDepth 20000
set_option linter.unusedVariables false
namespace Po
end Po
end Go.Proofs.YtngodakgbldlpaaGreatDoor
namespace Go.Proofs.YtngodakgbldlpaaGreatDoor
open Go.Sx
set_option maxRecDepth 20000
set_option linter.unusedSimpArgs false
set_option linter.unusedVariables false
set_option maxHeartbeats 4000000
set_option linter.unusedVariables false
namespace Pd
end Pd
end Go.Proofs.YtngodakgbldlpaaGreatDoor

