/-
  Numerals and joined texts: the library's contracts, over what is read alone.
-/
import Derived.Test.YtlcleiekeapkdaaLay
import Derived.Lib.Join
import Derived.Test.YtlcleiekeapkdaaSxC
namespace Go.Proofs.Ytlcleiekeapkdaa
open Go.Sx
end Go.Proofs.Ytlcleiekeapkdaa

