import Derived.Test.YtniahabpedamcaaDoorSxC
namespace Go.Proofs.YtniahabpedamcaaDoor
open Go.Sx
end Go.Proofs.YtniahabpedamcaaDoor
