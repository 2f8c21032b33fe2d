import Derived.Test.YtmehinfgdcmmjaaGreatPd7
import Derived.Test.YtmehinfgdcmmjaaGreatJ18
namespace Go.Proofs.YtmehinfgdcmmjaaGreat
open Go.Sx
set_option maxRecDepth 20000
set_option maxHeartbeats 4000000
set_option linter.unusedVariables false
section
variable (F:Heap)
end
section
variable (F:Heap)
end
section
variable (F:Heap)
end
section
variable (F:Heap)
end
end Go.Proofs.YtmehinfgdcmmjaaGreat
