import Derived.Test.YtgphhbadnjfbjaaDoorSxK
import Derived.Test.YtgphhbadnjfbjaaDoorSxJ
namespace Go.Sx
set_option linter.unusedVariables false
section
variable {P:Program}
end
end Go.Sx
