import Derived.Test.YtijkmhmgigaieaaSxC
namespace Go.Proofs.Ytijkmhmgigaieaa
open Go.Sx
end Go.Proofs.Ytijkmhmgigaieaa
