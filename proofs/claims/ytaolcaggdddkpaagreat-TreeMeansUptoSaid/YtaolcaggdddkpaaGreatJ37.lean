/-
  Conditions: for which packets they hold, by the document; What comes of a packet, by the document: all of two; Run.
-/
import Derived.Test.YtaolcaggdddkpaaGreatJ13
import Derived.Test.YtaolcaggdddkpaaGreatJ36
import Derived.Test.YtaolcaggdddkpaaGreatJ24
namespace Go.Proofs.YtaolcaggdddkpaaGreat
open Go.Sx
set_option maxRecDepth 20000
set_option linter.unusedSimpArgs false
set_option linter.unusedVariables false
set_option maxHeartbeats 4000000
set_option linter.unusedVariables false
namespace Pd
end Pd
end Go.Proofs.YtaolcaggdddkpaaGreat
namespace Go.Proofs.YtaolcaggdddkpaaGreat
open Go.Sx
set_option maxRecDepth 20000
set_option linter.unusedSimpArgs false
set_option linter.unusedVariables false
set_option maxHeartbeats 4000000
set_option linter.unusedVariables false
end Go.Proofs.YtaolcaggdddkpaaGreat
