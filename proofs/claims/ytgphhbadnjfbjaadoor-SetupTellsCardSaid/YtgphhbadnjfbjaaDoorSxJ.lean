import Derived.Test.YtgphhbadnjfbjaaDoorSxC
namespace Go.Sx
set_option linter.unusedVariables false
end Go.Sx
