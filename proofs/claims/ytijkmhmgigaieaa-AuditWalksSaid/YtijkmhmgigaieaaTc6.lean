/-
  Traces: how far, the same ones, the document's 'twice'.
-/
import Derived.Test.YtijkmhmgigaieaaTc2
import Derived.Test.YtijkmhmgigaieaaSxK
namespace Go.Proofs.Ytijkmhmgigaieaa
open Go.Sx
set_option maxRecDepth 20000
set_option linter.unusedSimpArgs false
set_option linter.unusedVariables false
set_option maxHeartbeats 4000000
set_option linter.unusedVariables false
namespace Tc
deriving instance DecidableEq for C
end Tc
namespace Tc
/-- Is one of them there twice? -/
def twice (l : List Int) : Bool := !decide l.Nodup
end Tc
end Go.Proofs.Ytijkmhmgigaieaa


