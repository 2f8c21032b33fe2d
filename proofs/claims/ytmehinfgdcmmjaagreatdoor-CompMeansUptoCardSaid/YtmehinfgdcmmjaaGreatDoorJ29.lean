import Derived.Test.YtmehinfgdcmmjaaGreatDoorJ25
import Derived.Test.YtmehinfgdcmmjaaGreatDoorJ21
import Derived.Test.YtmehinfgdcmmjaaGreatDoorJ28
import Derived.Test.YtmehinfgdcmmjaaGreatDoorJ27
import Derived.Test.YtmehinfgdcmmjaaGreatDoorJ22
import Derived.Test.YtmehinfgdcmmjaaGreatDoorJ7
namespace Go.Proofs.YtmehinfgdcmmjaaGreatDoor
open Go.Sx
set_option maxRecDepth 20000
set_option linter.unusedSimpArgs false
set_option linter.unusedVariables false
set_option maxHeartbeats 16000000
set_option linter.unusedVariables false
end Go.Proofs.YtmehinfgdcmmjaaGreatDoor
namespace Go.Proofs.YtmehinfgdcmmjaaGreatDoor
open Go.Sx
set_option maxRecDepth 20000
set_option linter.unusedSimpArgs false
set_option linter.unusedVariables false
set_option maxHeartbeats 4000000
set_option linter.unusedVariables false
namespace Cm
end Cm
end Go.Proofs.YtmehinfgdcmmjaaGreatDoor
namespace Go.Proofs.YtmehinfgdcmmjaaGreatDoor
open Go.Sx
set_option maxRecDepth 20000
set_option linter.unusedVariables false
namespace Mt
end Mt
namespace Mt
end Mt
end Go.Proofs.YtmehinfgdcmmjaaGreatDoor
namespace Go.Proofs.YtmehinfgdcmmjaaGreatDoor
open Go.Sx
set_option maxRecDepth 20000
set_option linter.unusedSimpArgs false
set_option linter.unusedVariables false
set_option linter.unusedVariables false
namespace Ac
theorem take_next {α:Type} {l:List α} {k:Nat} {x:α} (h:l[k]?=some x):l.take (k+1)=l.take k++[x]:=by
 rw [List.take_add_one,h];rfl
end Ac
end Go.Proofs.YtmehinfgdcmmjaaGreatDoor
