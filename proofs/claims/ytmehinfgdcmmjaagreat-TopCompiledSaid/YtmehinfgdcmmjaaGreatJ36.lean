import Derived.Test.YtmehinfgdcmmjaaGreatJ18
import Derived.Test.YtmehinfgdcmmjaaGreatJ35
import Derived.Test.YtmehinfgdcmmjaaGreatJ31
namespace Go.Proofs.YtmehinfgdcmmjaaGreat
open Go.Sx
set_option maxRecDepth 20000
set_option maxHeartbeats 4000000
set_option linter.unusedVariables false
section
variable (F:Heap)
end
section
variable (F:Heap)
end
section
variable (F:Heap)
end
namespace Tp
end Tp
end Go.Proofs.YtmehinfgdcmmjaaGreat
