/-
  The example of chapter 4, and the laws of numbers' bytes.
-/
import Derived.Test.YtlcleiekeapkdaaOct3
namespace Go.Proofs.Ytlcleiekeapkdaa
open Go.Sx
set_option maxRecDepth 20000
end Go.Proofs.Ytlcleiekeapkdaa

