import Derived.Test.YtniahabpedamcaaDoorSxC
import Derived.Test.YtniahabpedamcaaDoorProg
import Derived.Lib.ItoaLen
namespace Go.Proofs.YtniahabpedamcaaDoor
open Go.Sx
set_option maxRecDepth 20000
set_option linter.unusedSimpArgs false
set_option linter.unusedVariables false
set_option linter.unusedVariables false
end Go.Proofs.YtniahabpedamcaaDoor
