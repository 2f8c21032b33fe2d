/-
  Matches: the document's meeting, text and bytes.
-/
import Derived.Test.YtlcleiekeapkdaaMt6
import Derived.Test.YtlcleiekeapkdaaMt9
import Derived.Test.YtlcleiekeapkdaaOct1
namespace Go.Proofs.Ytlcleiekeapkdaa
open Go.Sx
set_option maxRecDepth 20000
set_option linter.unusedVariables false
end Go.Proofs.Ytlcleiekeapkdaa

