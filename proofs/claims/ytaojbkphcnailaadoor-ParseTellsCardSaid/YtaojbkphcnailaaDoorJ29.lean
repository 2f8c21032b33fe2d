import Derived.Test.YtaojbkphcnailaaDoorJ28
import Derived.Test.YtaojbkphcnailaaDoorJ10
namespace Go.Proofs.YtaojbkphcnailaaDoor
open Go.Sx
set_option maxRecDepth 20000
set_option linter.unusedVariables false
set_option linter.unusedSimpArgs false
namespace Ps
open Lx (B)
end Ps
end Go.Proofs.YtaojbkphcnailaaDoor
namespace Go.Proofs.YtaojbkphcnailaaDoor
open Go.Sx
set_option maxRecDepth 20000
set_option linter.unusedVariables false
namespace Ps
open Lx (B)
end Ps
end Go.Proofs.YtaojbkphcnailaaDoor
