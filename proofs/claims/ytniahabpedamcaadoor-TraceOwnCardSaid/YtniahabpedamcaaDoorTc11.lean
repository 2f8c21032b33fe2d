import Derived.Test.YtniahabpedamcaaDoorTc6
import Derived.Test.YtniahabpedamcaaDoorDig
namespace Go.Proofs.YtniahabpedamcaaDoor
open Go.Sx
set_option maxRecDepth 20000
set_option linter.unusedSimpArgs false
set_option linter.unusedVariables false
set_option maxHeartbeats 4000000
set_option linter.unusedVariables false
namespace Tc
def In (z : Int) : Prop := -9223372036854775808 ≤ z ∧ z ≤ 9223372036854775807
structure C.In (c : C) : Prop where
  id : Tc.In c.id
  fr : Tc.In c.fr
  to : Tc.In c.to
  at_ : Tc.In c.at_
  host : Tc.In c.host
  last : Tc.In c.last
  sws : ∀ z ∈ c.sws, Tc.In z
def head (c : C) : List UInt8 := Lib.itoa c.id ++ [58, 32] ++ Lib.itoa c.fr ++ [62] ++ Lib.itoa c.to ++ [32, 97, 116, 32] ++ Lib.itoa c.at_ ++ [58]
def way (l : List Int) : List UInt8 := l.flatMap fun z => [32] ++ Lib.itoa z
def foot (c : C) : List UInt8 :=
  if c.end_ = 3 then [32, 103, 111, 110, 101, 32] ++ Lib.itoa c.host ++ [32, 97, 116, 32] ++ Lib.itoa c.last
  else if c.end_ = 4 then [32, 100, 114, 111, 112, 112, 101, 100, 32, 97, 116, 32] ++ Lib.itoa c.last
  else [32, 111, 110, 32, 105, 116, 115, 32, 119, 97, 121]
def txt (c : C) : List UInt8 := head c ++ way c.sws ++ foot c
theorem itoa_len {z : Int} (h : Tc.In z) : (Lib.itoa z).length ≤ 21 := Lib.itoa_length_le z h.1 h.2
theorem head_len {c : C} (h : c.In) : (head c).length ≤ 100 := by
  have h1 := itoa_len h.id
  have h2 := itoa_len h.fr
  have h3 := itoa_len h.to
  have h4 := itoa_len h.at_
  unfold head
  simp only [List.length_append, List.length_cons, List.length_nil]
  omega
theorem way_next (l : List Int) (z : Int) : way (l ++ [z]) = way l ++ [32] ++ Lib.itoa z := by unfold way; rw [List.flatMap_append]; simp
theorem way_len {l : List Int} (h : ∀ z ∈ l, Tc.In z) : (way l).length ≤ l.length * 22 := by
  induction l with
  | nil => exact Nat.le_refl _
  | cons z l ih =>
    have h1 := itoa_len (h z (List.mem_cons_self ..))
    have h2 := ih fun y hy => h y (List.mem_cons_of_mem _ hy)
    unfold way at *
    rw [List.flatMap_cons]
    simp only [List.length_append, List.length_cons, List.length_nil]
    omega
end Tc
end Go.Proofs.YtniahabpedamcaaDoor
