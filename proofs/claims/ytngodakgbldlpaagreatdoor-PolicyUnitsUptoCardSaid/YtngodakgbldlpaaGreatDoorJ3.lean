/-
  Policies: the numbers of a field. Plain; Conditions: what they are at a switch. Plain.
-/
import Derived.Test.YtngodakgbldlpaaGreatDoorJ1
import Derived.Test.YtngodakgbldlpaaGreatDoorJ2
namespace Go.Proofs.YtngodakgbldlpaaGreatDoor
open Go.Sx
set_option maxRecDepth 20000
set_option linter.unusedVariables false
namespace Po
theorem right_fits {p : Pd.T} (h : Pd.right p = true) : Pd.fits p = true := by
  unfold Pd.right at h
  simp only [Bool.and_eq_true, decide_eq_true_eq] at h
  exact h.1
end Po
end Go.Proofs.YtngodakgbldlpaaGreatDoor
namespace Go.Proofs.YtngodakgbldlpaaGreatDoor
open Go.Sx
set_option maxRecDepth 20000
set_option linter.unusedVariables false
namespace Pd
/-- What is left of conditions, of which one kind is left out, and one decides. -/
def fold (k f v out d : Int) (l : List T) : T :=
  if l.any (fun x => decide (x.k = d)) then .mk d 0 0 []
  else match l.filter (fun x => !decide (x.k = out)) with
    | [] => .mk out 0 0 []
    | [x] => x
    | x :: y :: r => .mk k f v (x :: y :: r)
mutual
def cut (sw : Int) : T → T
  | .mk k f v l => if k = 3 ∧ f = 5 then .mk (if v = sw then 1 else 2) 0 0 [] else if k = 5 then fold 5 f v 1 2 (cutL sw l) else if k = 6 then fold 6 f v 2 1 (cutL sw l)
    else if k = 4 ∧ (cut1 sw l).k ≤ 2 then .mk (if (cut1 sw l).k = 2 then 1 else 2) 0 0 [] else .mk k f v (cutL sw l)
def cut1 (sw : Int) : List T → T
  | [] => .mk 3 0 0 []
  | p :: _ => cut sw p
def cutL (sw : Int) : List T → List T
  | [] => []
  | p :: l => cut sw p :: cutL sw l
end
theorem hits_mk1 (x : At) (f v : Int) (l : List T) : hits x (.mk 1 f v l) = true := by rw [hits.eq_def]; simp
theorem hits_mk2 (x : At) (f v : Int) (l : List T) : hits x (.mk 2 f v l) = false := by rw [hits.eq_def]; simp
/-- The same place, at no switch. -/
def At.off (x : At) : At := { x with sw := -1 }
end Pd
end Go.Proofs.YtngodakgbldlpaaGreatDoor

