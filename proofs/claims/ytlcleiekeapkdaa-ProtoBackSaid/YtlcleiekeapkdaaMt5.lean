/-
  Matches, walked: one field alone, and text.
-/
import Derived.Test.YtlcleiekeapkdaaMt4
import Derived.Test.YtlcleiekeapkdaaLib1
import Derived.Lib.ItoaLen
namespace Go.Proofs.Ytlcleiekeapkdaa
open Go.Sx
set_option maxRecDepth 20000
def nameB (f : Nat) : List UInt8 := match f with | 0 => [115, 114, 99] | 1 => [100, 115, 116] | 2 => [107, 105, 110, 100] | _ => [116, 97, 103]
/-! ### Text -/
namespace Mt
end Mt
end Go.Proofs.Ytlcleiekeapkdaa

