/-
  What is read alone, twice; two heaps as one.
-/
import Derived.Test.YtniahabpedamcaaDoorSxC
namespace Go.Sx
set_option linter.unusedVariables false
end Go.Sx


