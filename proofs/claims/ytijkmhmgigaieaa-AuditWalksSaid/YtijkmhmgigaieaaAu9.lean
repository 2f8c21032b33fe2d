/-
  AuditOwn, walked.
-/
import Derived.Test.YtijkmhmgigaieaaAu6
import Derived.Test.YtijkmhmgigaieaaAu8
import Derived.Test.YtijkmhmgigaieaaAu9p
import Derived.Test.YtijkmhmgigaieaaTc15e
namespace Go.Proofs.Ytijkmhmgigaieaa
open Go.Sx
set_option maxRecDepth 20000
set_option linter.unusedSimpArgs false
set_option linter.unusedVariables false
set_option maxHeartbeats 4000000
set_option linter.unusedVariables false
set_option linter.unnecessarySimpa false
namespace Au
end Au
end Go.Proofs.Ytijkmhmgigaieaa


