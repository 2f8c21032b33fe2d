import Derived.Test.YtniahabpedamcaaDoorSxC
namespace Go.Sx
set_option linter.unusedVariables false
end Go.Sx
