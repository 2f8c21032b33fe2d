/-
  What a tied row's condition gives: the library's table of powers of ten lies in memory.
-/
import Derived.Test.YtlcleiekeapkdaaLib1
import Derived.Lib.LaidTab
import Derived.MakeChecks
import Derived.Test.YtlcleiekeapkdaaRows
namespace Go.Proofs.Ytlcleiekeapkdaa
open Go.Sx
end Go.Proofs.Ytlcleiekeapkdaa

