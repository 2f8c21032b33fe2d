/-
  Conditions: what they are; how great, how deep; the same; for which packets they hold. Plain.
-/
import Derived.Test.YtngodakgbldlpaaGreatDoorTSxC
namespace Go.Proofs.YtngodakgbldlpaaGreatDoor
open Go.Sx
set_option maxRecDepth 20000
set_option linter.unusedVariables false
namespace Pd
inductive T where
  | mk (k f v : Int) (l : List T)
def T.k : T → Int | .mk k _ _ _ => k
def T.f : T → Int | .mk _ f _ _ => f
def T.v : T → Int | .mk _ _ v _ => v
def T.l : T → List T | .mk _ _ _ l => l
mutual
def size : T → Nat
  | .mk _ _ _ l => 1 + sizeL l
def sizeL : List T → Nat
  | [] => 0
  | p :: l => size p + sizeL l
end
mutual
def deep : T → Nat
  | .mk _ _ _ l => 1 + deepL l
def deepL : List T → Nat
  | [] => 0
  | p :: l => max (deep p) (deepL l)
end
mutual
def same : T → T → Bool
  | .mk k f v l, .mk k' f' v' l' => decide (k = k') && decide (f = f') && decide (v = v') && sameL l l'
def sameL : List T → List T → Bool
  | [], [] => true
  | p :: l, q :: l' => same p q && sameL l l'
  | _, _ => false
end
def top (f : Int) : Int := if f = 4 ∨ f = 5 then 7 else if f = 2 then 15 else if f = 0 ∨ f = 1 ∨ f = 3 then 255 else 0
/-- Has it what its kind has? -/
def shape (k f v : Int) (n : Nat) : Bool :=
  decide (k = 3 ∧ (0 ≤ f ∧ f ≤ 5) ∧ (0 ≤ v ∧ v ≤ top f) ∧ n = 0 ∨ (k = 1 ∨ k = 2) ∧ f = 0 ∧ v = 0 ∧ n = 0 ∨ k = 4 ∧ f = 0 ∧ v = 0 ∧ n = 1 ∨ (k = 5 ∨ k = 6) ∧ f = 0 ∧ v = 0 ∧ 2 ≤ n ∧ n ≤ 8)
mutual
def fits : T → Bool
  | .mk k f v l => shape k f v l.length && fitsL l
def fitsL : List T → Bool
  | [] => true
  | p :: l => fits p && fitsL l
end
def right (p : T) : Bool := fits p && (decide (size p ≤ 64) && decide (deep p ≤ 8))
/-- A packet at a port of a switch. -/
structure At where
  sw : Int
  port : Int
  p0 : Int
  p1 : Int
  p2 : Int
  p3 : Int
def get (f : Int) (x : At) : Int := if f = 0 then x.p0 else if f = 1 then x.p1 else if f = 2 then x.p2 else if f = 3 then x.p3 else if f = 4 then x.port else if f = 5 then x.sw else -1
mutual
def hits (x : At) : T → Bool
  | .mk k f v l => if k = 1 then true else if k = 3 then decide ((0 ≤ f ∧ f ≤ 5) ∧ get f x = v) else if k = 4 then (match l with | [] => false | _ :: _ => !hits1 x l) else if k = 5 then hitsAll x l else if k = 6 then !hitsNone x l else false
def hits1 (x : At) : List T → Bool
  | [] => false
  | p :: _ => hits x p
def hitsAll (x : At) : List T → Bool
  | [] => true
  | p :: l => hits x p && hitsAll x l
def hitsNone (x : At) : List T → Bool
  | [] => true
  | p :: l => !hits x p && hitsNone x l
end
/-! ### Lists -/
theorem sizeL_append (a b : List T) : sizeL (a ++ b) = sizeL a + sizeL b := by
  induction a with
  | nil => simp [sizeL]
  | cons p a ih => simp only [List.cons_append, sizeL, ih]; omega
theorem sizeL_take {l : List T} {k : Nat} (h : k < l.length) : sizeL (l.take (k + 1)) = sizeL (l.take k) + size l[k] := by
  rw [List.take_add_one, List.getElem?_eq_getElem h, sizeL_append]
  simp [sizeL]
theorem size_pos : ∀ p : T, 1 ≤ size p
  | .mk _ _ _ l => by rw [size]; omega
theorem sizeL_le {l : List T} : ∀ {k : Nat}, sizeL (l.take k) ≤ sizeL l := fun {k} => by
  have := sizeL_append (l.take k) (l.drop k)
  rw [List.take_append_drop] at this
  omega
theorem size_lt {k f v : Int} {l : List T} {p : T} (h : p ∈ l) : size p < size (.mk k f v l) := by
  have : size p ≤ sizeL l := by
    induction l with
    | nil => cases h
    | cons q l ih =>
      rw [sizeL]
      rcases List.mem_cons.1 h with rfl | h
      · omega
      · have := ih h; omega
  rw [size]; omega
theorem length_le (l : List T) : l.length ≤ sizeL l := by
  induction l with
  | nil => simp [sizeL]
  | cons p l ih => have := size_pos p; rw [sizeL, List.length_cons]; omega
theorem deepL_append (a b : List T) : deepL (a ++ b) = max (deepL a) (deepL b) := by
  induction a with
  | nil => simp [deepL]
  | cons p a ih => simp only [List.cons_append, deepL, ih]; omega
theorem deepL_take {l : List T} {k : Nat} (h : k < l.length) : deepL (l.take (k + 1)) = max (deepL (l.take k)) (deep l[k]) := by
  rw [List.take_add_one, List.getElem?_eq_getElem h, deepL_append]
  simp [deepL]
mutual
theorem deep_size : ∀ p : T, deep p ≤ size p
  | .mk _ _ _ l => by have := deepL_size l; rw [deep, size]; omega
theorem deepL_size : ∀ l : List T, deepL l ≤ sizeL l
  | [] => by simp [deepL]
  | p :: l => by have := deep_size p; have := deepL_size l; rw [deepL, sizeL]; omega
end
theorem fitsL_iff (l : List T) : fitsL l = true ↔ ∀ p ∈ l, fits p = true := by
  induction l with
  | nil => simp [fitsL]
  | cons p l ih => simp only [fitsL, Bool.and_eq_true, ih, List.mem_cons, forall_eq_or_imp]
theorem sameL_iff : ∀ (a b : List T), sameL a b = true ↔ a.length = b.length ∧ ∀ (k : Nat) (x y : T), a[k]? = some x → b[k]? = some y → same x y = true
  | [], [] => by simp [sameL]
  | [], _ :: _ => by simp [sameL]
  | _ :: _, [] => by simp [sameL]
  | x :: a, y :: b => by
    simp only [sameL, Bool.and_eq_true, sameL_iff a b]
    constructor
    · rintro ⟨h1, h2, h3⟩
      refine ⟨by simp [h2], fun k p q hp hq => ?_⟩
      cases k with
      | zero => simp at hp hq; subst hp hq; exact h1
      | succ k => exact h3 k p q (by simpa using hp) (by simpa using hq)
    · rintro ⟨h1, h2⟩
      exact ⟨h2 0 x y rfl rfl, by simpa using h1, fun k p q hp hq => h2 (k + 1) p q (by simpa using hp) (by simpa using hq)⟩
mutual
theorem same_eq : ∀ a b : T, same a b = true ↔ a = b
  | .mk k f v l, .mk k' f' v' l' => by
    rw [same]
    simp only [Bool.and_eq_true, decide_eq_true_eq, sameL_eq l l', T.mk.injEq, and_assoc]
theorem sameL_eq : ∀ a b : List T, sameL a b = true ↔ a = b
  | [], [] => by simp [sameL]
  | [], _ :: _ => by simp [sameL]
  | _ :: _, [] => by simp [sameL]
  | p :: l, q :: l' => by rw [sameL, Bool.and_eq_true, same_eq p q, sameL_eq l l', List.cons.injEq]
end
end Pd
end Go.Proofs.YtngodakgbldlpaaGreatDoor


