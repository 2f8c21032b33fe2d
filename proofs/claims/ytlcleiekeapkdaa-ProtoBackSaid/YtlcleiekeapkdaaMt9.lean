/-
  Matches: the document's hits, within and meet, bit by bit.
-/
import Derived.Test.YtlcleiekeapkdaaMt4
namespace Go.Proofs.Ytlcleiekeapkdaa
open Go.Sx
set_option maxRecDepth 20000
set_option linter.unusedVariables false
namespace Mt
def bt (n i : Nat) : Nat := n / 2 ^ i % 2
end Mt
end Go.Proofs.Ytlcleiekeapkdaa

