/-
  What comes of a packet, by the document: a field set, a packet in its place, all of two; What comes of a packet, by the document: a packet in its place; all of two.
-/
import Derived.Test.YtngodakgbldlpaaGreatDoorJ27
import Derived.Test.YtngodakgbldlpaaGreatDoorJ23
namespace Go.Proofs.YtngodakgbldlpaaGreatDoor
open Go.Sx
set_option maxRecDepth 20000
set_option linter.unusedSimpArgs false
set_option linter.unusedVariables false
set_option maxHeartbeats 4000000
set_option linter.unusedVariables false
namespace Po
/-- As far as a packet has been put in. -/
structure Putting (s : S) (l out : List S) (dn : Bool) (i : Nat) : Prop where
  le : i ≤ l.length
  yes : dn = true → ins s l = out ++ l.drop i
  no : dn = false → out = l.take i ∧ ins s l = l.take i ++ ins s (l.drop i)
  len : out.length ≤ i + 1
theorem Putting.zero (s : S) (l : List S) : Putting s l [] false 0 := ⟨Nat.zero_le _, (fun h => by cases h), fun _ => ⟨rfl, rfl⟩, by simp⟩
theorem Putting.copy {s : S} {l out : List S} {i : Nat} {x : S} (h : Putting s l out true i) (hx : l[i]? = some x) : Putting s l (out ++ [x]) true (i + 1) := by
  obtain ⟨hlt, rfl⟩ := List.getElem?_eq_some_iff.1 hx
  refine ⟨hlt, fun _ => ?_, (fun h => by cases h), by have := h.len; simp; omega⟩
  rw [h.yes rfl, List.drop_eq_getElem_cons hlt, List.append_assoc]; rfl
end Po
end Go.Proofs.YtngodakgbldlpaaGreatDoor
namespace Go.Proofs.YtngodakgbldlpaaGreatDoor
open Go.Sx
set_option maxRecDepth 20000
set_option linter.unusedSimpArgs false
set_option linter.unusedVariables false
set_option maxHeartbeats 4000000
set_option linter.unusedVariables false
end Go.Proofs.YtngodakgbldlpaaGreatDoor

