/-
  A row of one's own that is handed back, told as what is read alone.
-/
import Derived.Test.YtniahabpedamcaaDoorSxC
namespace Go.Proofs.YtniahabpedamcaaDoor
open Go.Sx
end Go.Proofs.YtniahabpedamcaaDoor


