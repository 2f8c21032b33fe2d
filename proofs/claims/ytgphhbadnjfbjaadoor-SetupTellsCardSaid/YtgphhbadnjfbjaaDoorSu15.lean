import Derived.Test.YtgphhbadnjfbjaaDoorSuR
namespace Go.Proofs.YtgphhbadnjfbjaaDoor
open Go.Sx
set_option maxRecDepth 20000
set_option linter.unusedSimpArgs false
set_option linter.unusedVariables false
set_option maxHeartbeats 4000000
set_option linter.unusedVariables false
namespace Su
end Su
end Go.Proofs.YtgphhbadnjfbjaaDoor
