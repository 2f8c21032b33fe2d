/-
  Acts as text.
-/
import Derived.Test.YtlcleiekeapkdaaAc2
import Derived.Test.YtlcleiekeapkdaaMt5
namespace Go.Proofs.Ytlcleiekeapkdaa
open Go.Sx
set_option maxRecDepth 20000
set_option linter.unusedVariables false
namespace Ac
/-- An act that may be, as text. -/
def part (x : A) : List UInt8 :=
  if x.k = 1 then [115, 101, 116, 32] ++ nameB x.f.toNat ++ [32] ++ Lib.itoa x.v
  else if x.k = 2 then [111, 117, 116, 32] ++ Lib.itoa x.v else [98, 97, 99, 107]
end Ac
end Go.Proofs.Ytlcleiekeapkdaa

