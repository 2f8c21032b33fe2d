/-
  What comes of a packet, by the document: a packet in its place; all of two; How wide the parts of a policy are. Plain.
-/
import Derived.Test.YtaolcaggdddkpaaGreatJ35
import Derived.Test.YtaolcaggdddkpaaGreatJ5
namespace Go.Proofs.YtaolcaggdddkpaaGreat
open Go.Sx
set_option maxRecDepth 20000
set_option linter.unusedSimpArgs false
set_option linter.unusedVariables false
set_option maxHeartbeats 4000000
set_option linter.unusedVariables false
end Go.Proofs.YtaolcaggdddkpaaGreat
namespace Go.Proofs.YtaolcaggdddkpaaGreat
open Go.Sx
set_option maxRecDepth 20000
set_option linter.unusedVariables false
namespace Po
end Po
end Go.Proofs.YtaolcaggdddkpaaGreat
