/-
  Traces of events, by the document.
-/
import Derived.Test.YtijkmhmgigaieaaTc2
import Derived.Test.YtijkmhmgigaieaaSxCut
namespace Go.Proofs.Ytijkmhmgigaieaa
open Go.Sx
set_option maxRecDepth 20000
set_option linter.unusedSimpArgs false
set_option linter.unusedVariables false
set_option maxHeartbeats 4000000
set_option linter.unusedVariables false
namespace Tc
theorem put_mid {A M B : List AV} {a j : Nat} {x : AV} {K : List AV → Prop} (ha : A.length = a) (hj : j < M.length) (hK : K (A ++ (M.set j x ++ B))) : putK (A ++ (M ++ B)) (a + j) [x] K :=
  putK.one (by simp; omega) (by rw [set_mid ha hj]; exact hK)
theorem nth_mid {A M B : List AV} {a j : Nat} {x : AV} (ha : A.length = a) (hj : j < M.length) (hx : M[j]? = some x := by rfl) : (A ++ (M ++ B))[a + j]? = some x := (get_mid ha hj).trans hx
end Tc
end Go.Proofs.Ytijkmhmgigaieaa


