import Derived.Test.YtaojbkphcnailaaDoorSxC
import Derived.Test.YtaojbkphcnailaaDoorJ7
namespace Go.Sx
set_option linter.unusedVariables false
end Go.Sx
namespace Go.Sx
set_option linter.unusedVariables false
section
variable {P:Program}
end
end Go.Sx
