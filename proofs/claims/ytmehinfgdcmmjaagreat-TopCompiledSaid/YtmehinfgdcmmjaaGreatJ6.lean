import Derived.Test.YtmehinfgdcmmjaaGreatJ5
import Derived.Lib.LaidTab
import Derived.MakeChecks
import Derived.Test.YtmehinfgdcmmjaaGreatRows
import Derived.Test.YtmehinfgdcmmjaaGreatProg
import Derived.Test.YtmehinfgdcmmjaaGreatSxC
namespace Go.Proofs.YtmehinfgdcmmjaaGreat
open Go.Sx
set_option maxRecDepth 20000
set_option linter.unusedVariables false
namespace Mt
end Mt
namespace Oct
end Oct
end Go.Proofs.YtmehinfgdcmmjaaGreat
