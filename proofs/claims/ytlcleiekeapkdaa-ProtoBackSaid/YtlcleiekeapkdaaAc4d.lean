/-
  Acts in a row.
-/
import Derived.Test.YtlcleiekeapkdaaAc1
namespace Go.Proofs.Ytlcleiekeapkdaa
open Go.Sx
namespace Ac
def avs (l : List A) : List AV := l.flatMap A.av
theorem avs_next (l : List A) (x : A) : avs (l ++ [x]) = avs l ++ [.int .i64 x.k, .int .i64 x.f, .int .i64 x.v] := by simp [avs, A.av]
theorem avs_len (l : List A) : (avs l).length = 3 * l.length := by
  induction l with
  | nil => rfl
  | cons x l ih => simp only [avs, List.flatMap_cons, List.length_append, List.length_cons] at *; rw [ih]; simp only [A.av, List.length_cons, List.length_nil]; omega
theorem avs_den (l : List A) : denL (avs l) = l.flatMap actV := by
  induction l with
  | nil => rfl
  | cons x l ih => simp only [avs, List.flatMap_cons, A.av, actV, List.cons_append, List.nil_append, denL, AV.den] at *; rw [ih]
end Ac
def actRow (u : Value) (l : List Ac.A) : Blk := ⟨addrOf u, Ac.avs l, .row u 82 3 l.length⟩
end Go.Proofs.Ytlcleiekeapkdaa

