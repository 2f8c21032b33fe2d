import Derived.Test.YtaojbkphcnailaaDoorJ15
import Derived.Test.YtaojbkphcnailaaDoorJ14
import Derived.Test.YtaojbkphcnailaaDoorJ9
namespace Go.Proofs.YtaojbkphcnailaaDoor
open Go.Sx
set_option maxRecDepth 20000
set_option maxHeartbeats 4000000
set_option linter.unusedVariables false
namespace Pd
end Pd
end Go.Proofs.YtaojbkphcnailaaDoor
namespace Go.Sx
end Go.Sx
namespace Go.Proofs.YtaojbkphcnailaaDoor
open Go.Sx
set_option maxRecDepth 20000
set_option maxHeartbeats 4000000
set_option linter.unusedVariables false
namespace Pd
end Pd
end Go.Proofs.YtaojbkphcnailaaDoor
