/-
  AuditOwn: what a packet more changes.
-/
import Derived.Test.YtijkmhmgigaieaaAu5
namespace Go.Proofs.Ytijkmhmgigaieaa
namespace Au
open Tc (E C)
end Au
end Go.Proofs.Ytijkmhmgigaieaa


