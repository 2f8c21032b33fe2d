/-
  A row of one's own that is handed back, told as what is read alone.
-/
import Derived.Test.YtijkmhmgigaieaaSxC
namespace Go.Proofs.Ytijkmhmgigaieaa
open Go.Sx
end Go.Proofs.Ytijkmhmgigaieaa


