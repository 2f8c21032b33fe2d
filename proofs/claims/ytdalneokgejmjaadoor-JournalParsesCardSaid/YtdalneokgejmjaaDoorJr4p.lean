/-
  Journals: words, lines, texts. Plain laws.
-/
import Derived.Test.YtdalneokgejmjaaDoorJr1
import Derived.Lib.ItoaLen
namespace Go.Proofs.YtdalneokgejmjaaDoor
open Go.Sx
set_option maxRecDepth 20000
set_option linter.unusedVariables false
namespace Jr
def word (k : Int) : List UInt8 :=
  if k = 1 then [98, 101, 103, 105, 110] else if k = 2 then [97, 114, 109] else if k = 3 then [115, 117, 114, 101] else if k = 4 then [99, 97, 110, 99, 101, 108]
  else if k = 5 then [99, 111, 109, 109, 105, 116] else if k = 6 then [99, 108, 111, 115, 101] else if k = 7 then [114, 101, 108, 101, 97, 115, 101] else [63]
theorem word_len (k : Int) : (word k).length ≤ 7 := by
  unfold word
  repeat' split
  all_goals decide
def line (r : Rec) : List UInt8 := ((((((word r.k ++ [32]) ++ Lib.itoa r.u) ++ [32]) ++ Lib.itoa r.a) ++ [32]) ++ Lib.itoa r.b) ++ [10]
theorem line_len {r : Rec} (h : r.ok) : (line r).length ≤ 100 := by
  have h0 := word_len r.k
  have h1 := Lib.itoa_length_le r.u h.2.1.1 h.2.1.2
  have h2 := Lib.itoa_length_le r.a h.2.2.1.1 h.2.2.1.2
  have h3 := Lib.itoa_length_le r.b h.2.2.2.1 h.2.2.2.2
  unfold line
  simp only [List.length_append, List.length_cons, List.length_nil]
  omega
def text (l : List Rec) : List UInt8 := l.flatMap line
theorem text_len : ∀ (l : List Rec), (∀ r ∈ l, r.ok) → (text l).length ≤ l.length * 100
  | [], _ => by simp [text]
  | r :: l, h => by
    have h1 := line_len (h r (by simp))
    have h2 := text_len l (fun x hx => h x (by simp [hx]))
    unfold text at *
    rw [List.flatMap_cons, List.length_append, List.length_cons]
    omega
end Jr
end Go.Proofs.YtdalneokgejmjaaDoor
