import Derived.Test.YtngodakgbldlpaaGreatDoorSxC
namespace Go.Proofs.YtngodakgbldlpaaGreatDoor
open Go.Sx
set_option maxRecDepth 20000
set_option linter.unusedVariables false
namespace Pd
inductive T where
  | mk (k f v : Int) (l : List T)
def T.k : T → Int | .mk k _ _ _ => k
def T.f : T → Int | .mk _ f _ _ => f
def T.v : T → Int | .mk _ _ v _ => v
def T.l : T → List T | .mk _ _ _ l => l
theorem T.eta : ∀ p : T, T.mk p.k p.f p.v p.l = p
  | .mk _ _ _ _ => rfl
mutual
def size : T → Nat
  | .mk _ _ _ l => 1 + sizeL l
def sizeL : List T → Nat
  | [] => 0
  | p :: l => size p + sizeL l
end
mutual
def deep : T → Nat
  | .mk _ _ _ l => 1 + deepL l
def deepL : List T → Nat
  | [] => 0
  | p :: l => max (deep p) (deepL l)
end
mutual
def same : T → T → Bool
  | .mk k f v l, .mk k' f' v' l' => decide (k = k') && decide (f = f') && decide (v = v') && sameL l l'
def sameL : List T → List T → Bool
  | [], [] => true
  | p :: l, q :: l' => same p q && sameL l l'
  | _, _ => false
end
def top (f : Int) : Int := if f = 4 ∨ f = 5 then 7 else if f = 2 then 15 else if f = 0 ∨ f = 1 ∨ f = 3 then 255 else 0
def shape (k f v : Int) (n : Nat) : Bool :=
  decide (k = 3 ∧ (0 ≤ f ∧ f ≤ 5) ∧ (0 ≤ v ∧ v ≤ top f) ∧ n = 0 ∨ (k = 1 ∨ k = 2) ∧ f = 0 ∧ v = 0 ∧ n = 0 ∨ k = 4 ∧ f = 0 ∧ v = 0 ∧ n = 1 ∨ (k = 5 ∨ k = 6) ∧ f = 0 ∧ v = 0 ∧ 2 ≤ n ∧ n ≤ 8)
mutual
def fits : T → Bool
  | .mk k f v l => shape k f v l.length && fitsL l
def fitsL : List T → Bool
  | [] => true
  | p :: l => fits p && fitsL l
end
def right (p : T) : Bool := fits p && (decide (size p ≤ 64) && decide (deep p ≤ 8))
structure At where
  sw : Int
  port : Int
  p0 : Int
  p1 : Int
  p2 : Int
  p3 : Int
def get (f : Int) (x : At) : Int := if f = 0 then x.p0 else if f = 1 then x.p1 else if f = 2 then x.p2 else if f = 3 then x.p3 else if f = 4 then x.port else if f = 5 then x.sw else -1
mutual
def hits (x : At) : T → Bool
  | .mk k f v l => if k = 1 then true else if k = 3 then decide ((0 ≤ f ∧ f ≤ 5) ∧ get f x = v) else if k = 4 then (match l with | [] => false | _ :: _ => !hits1 x l) else if k = 5 then hitsAll x l else if k = 6 then !hitsNone x l else false
def hits1 (x : At) : List T → Bool
  | [] => false
  | p :: _ => hits x p
def hitsAll (x : At) : List T → Bool
  | [] => true
  | p :: l => hits x p && hitsAll x l
def hitsNone (x : At) : List T → Bool
  | [] => true
  | p :: l => !hits x p && hitsNone x l
end
theorem sizeL_append (a b : List T) : sizeL (a ++ b) = sizeL a + sizeL b := by
  induction a with
  | nil => simp [sizeL]
  | cons p a ih => simp only [List.cons_append, sizeL, ih]; omega
theorem sizeL_take {l : List T} {k : Nat} (h : k < l.length) : sizeL (l.take (k + 1)) = sizeL (l.take k) + size l[k] := by
  rw [List.take_add_one, List.getElem?_eq_getElem h, sizeL_append]
  simp [sizeL]
theorem size_pos : ∀ p : T, 1 ≤ size p
  | .mk _ _ _ l => by rw [size]; omega
theorem sizeL_le {l : List T} : ∀ {k : Nat}, sizeL (l.take k) ≤ sizeL l := fun {k} => by
  have := sizeL_append (l.take k) (l.drop k)
  rw [List.take_append_drop] at this
  omega
theorem size_lt {k f v : Int} {l : List T} {p : T} (h : p ∈ l) : size p < size (.mk k f v l) := by
  have : size p ≤ sizeL l := by
    induction l with
    | nil => cases h
    | cons q l ih =>
      rw [sizeL]
      rcases List.mem_cons.1 h with rfl | h
      · omega
      · have := ih h; omega
  rw [size]; omega
theorem length_le (l : List T) : l.length ≤ sizeL l := by
  induction l with
  | nil => simp [sizeL]
  | cons p l ih => have := size_pos p; rw [sizeL, List.length_cons]; omega
theorem deepL_append (a b : List T) : deepL (a ++ b) = max (deepL a) (deepL b) := by
  induction a with
  | nil => simp [deepL]
  | cons p a ih => simp only [List.cons_append, deepL, ih]; omega
theorem deepL_take {l : List T} {k : Nat} (h : k < l.length) : deepL (l.take (k + 1)) = max (deepL (l.take k)) (deep l[k]) := by
  rw [List.take_add_one, List.getElem?_eq_getElem h, deepL_append]
  simp [deepL]
mutual
theorem deep_size : ∀ p : T, deep p ≤ size p
  | .mk _ _ _ l => by have := deepL_size l; rw [deep, size]; omega
theorem deepL_size : ∀ l : List T, deepL l ≤ sizeL l
  | [] => by simp [deepL]
  | p :: l => by have := deep_size p; have := deepL_size l; rw [deepL, sizeL]; omega
end
theorem fitsL_iff (l : List T) : fitsL l = true ↔ ∀ p ∈ l, fits p = true := by
  induction l with
  | nil => simp [fitsL]
  | cons p l ih => simp only [fitsL, Bool.and_eq_true, ih, List.mem_cons, forall_eq_or_imp]
theorem sameL_iff : ∀ (a b : List T), sameL a b = true ↔ a.length = b.length ∧ ∀ (k : Nat) (x y : T), a[k]? = some x → b[k]? = some y → same x y = true
  | [], [] => by simp [sameL]
  | [], _ :: _ => by simp [sameL]
  | _ :: _, [] => by simp [sameL]
  | x :: a, y :: b => by
    simp only [sameL, Bool.and_eq_true, sameL_iff a b]
    constructor
    · rintro ⟨h1, h2, h3⟩
      refine ⟨by simp [h2], fun k p q hp hq => ?_⟩
      cases k with
      | zero => simp at hp hq; subst hp hq; exact h1
      | succ k => exact h3 k p q (by simpa using hp) (by simpa using hq)
    · rintro ⟨h1, h2⟩
      exact ⟨h2 0 x y rfl rfl, by simpa using h1, fun k p q hp hq => h2 (k + 1) p q (by simpa using hp) (by simpa using hq)⟩
mutual
theorem same_eq : ∀ a b : T, same a b = true ↔ a = b
  | .mk k f v l, .mk k' f' v' l' => by
    rw [same]
    simp only [Bool.and_eq_true, decide_eq_true_eq, sameL_eq l l', T.mk.injEq, and_assoc]
theorem sameL_eq : ∀ a b : List T, sameL a b = true ↔ a = b
  | [], [] => by simp [sameL]
  | [], _ :: _ => by simp [sameL]
  | _ :: _, [] => by simp [sameL]
  | p :: l, q :: l' => by rw [sameL, Bool.and_eq_true, same_eq p q, sameL_eq l l', List.cons.injEq]
end
end Pd
end Go.Proofs.YtngodakgbldlpaaGreatDoor
namespace Go.Proofs.YtngodakgbldlpaaGreatDoor
open Go.Sx
set_option maxRecDepth 20000
set_option linter.unusedVariables false
namespace Po
inductive T where
  | mk (k : Int) (p : Pd.T) (f v : Int) (l : List T)
def T.k : T → Int | .mk k _ _ _ _ => k
def T.p : T → Pd.T | .mk _ p _ _ _ => p
def T.f : T → Int | .mk _ _ f _ _ => f
def T.v : T → Int | .mk _ _ _ v _ => v
def T.l : T → List T | .mk _ _ _ _ l => l
theorem T.eta : ∀ x : T, T.mk x.k x.p x.f x.v x.l = x
  | .mk _ _ _ _ _ => rfl
mutual
def tot : T → Nat
  | .mk _ p _ _ l => 1 + Pd.size p + totL l
def totL : List T → Nat
  | [] => 0
  | x :: l => tot x + totL l
end
mutual
def size : T → Nat
  | .mk k p _ _ l => 1 + (if k = 2 ∨ k = 3 ∨ k = 4 then 0 else Pd.size p) + sizeL l
def sizeL : List T → Nat
  | [] => 0
  | x :: l => size x + sizeL l
end
mutual
def deep : T → Nat
  | .mk _ _ _ _ l => 1 + deepL l
def deepL : List T → Nat
  | [] => 0
  | x :: l => max (deep x) (deepL l)
end
mutual
def wide : T → Nat
  | .mk k _ _ _ l => if k = 3 then wideS 1 l else if k = 4 then wideU 0 l else if k = 5 then wideI 0 l else 1
def wideS (n : Nat) : List T → Nat
  | [] => n
  | x :: l => wideS (min (n * wide x) 1000) l
def wideU (n : Nat) : List T → Nat
  | [] => n
  | x :: l => wideU (min (n + wide x) 1000) l
def wideI (n : Nat) : List T → Nat
  | [] => n
  | x :: l => wideI (max n (wide x)) l
end
mutual
def same : T → T → Bool
  | .mk k p f v l, .mk k' p' f' v' l' => decide (k = k') && decide (f = f') && decide (v = v') && Pd.same p p' && sameL l l'
def sameL : List T → List T → Bool
  | [], [] => true
  | x :: l, y :: l' => same x y && sameL l l'
  | _, _ => false
end
def noneP : Pd.T := .mk 0 0 0 []
def none (p : Pd.T) : Bool := Pd.same p noneP
def shape (k : Int) (p : Pd.T) (f v : Int) (n : Nat) : Bool :=
  decide (k = 1 ∧ Pd.right p = true ∧ (f = 0 ∧ v = 0) ∧ n = 0 ∨ k = 2 ∧ none p = true ∧ (0 ≤ f ∧ f ≤ 4) ∧ (0 ≤ v ∧ v ≤ Pd.top f) ∧ n = 0 ∨ (k = 3 ∨ k = 4) ∧ none p = true ∧ (f = 0 ∧ v = 0) ∧ 2 ≤ n ∧ n ≤ 8 ∨ k = 5 ∧ Pd.right p = true ∧ (f = 0 ∧ v = 0) ∧ n = 2)
mutual
def fits : T → Bool
  | .mk k p f v l => shape k p f v l.length && fitsL l
def fitsL : List T → Bool
  | [] => true
  | x :: l => fits x && fitsL l
end
def right (x : T) : Bool := fits x && (decide (deep x ≤ 8) && (decide (size x ≤ 64) && decide (wide x ≤ 64)))
theorem tot_mk (k : Int) (p : Pd.T) (f v : Int) (l : List T) : tot (.mk k p f v l) = 1 + Pd.size p + totL l := by rw [tot]
theorem tot_pos : ∀ x : T, 1 ≤ tot x
  | .mk k p f v l => by rw [tot]; omega
theorem totL_append (a b : List T) : totL (a ++ b) = totL a + totL b := by
  induction a with
  | nil => simp [totL]
  | cons p a ih => simp only [List.cons_append, totL, ih]; omega
theorem totL_take {l : List T} {k : Nat} (h : k < l.length) : totL (l.take (k + 1)) = totL (l.take k) + tot l[k] := by
  rw [List.take_add_one, List.getElem?_eq_getElem h, totL_append]
  simp [totL]
theorem totL_le {l : List T} : ∀ {k : Nat}, totL (l.take k) ≤ totL l := fun {k} => by
  have := totL_append (l.take k) (l.drop k)
  rw [List.take_append_drop] at this
  omega
theorem tot_lt {k : Int} {q : Pd.T} {f v : Int} {l : List T} {x : T} (h : x ∈ l) : tot x < tot (.mk k q f v l) := by
  have : tot x ≤ totL l := by
    induction l with
    | nil => cases h
    | cons y l ih =>
      rw [totL]
      rcases List.mem_cons.1 h with rfl | h
      · omega
      · have := ih h; omega
  rw [tot]; omega
theorem length_le (l : List T) : l.length ≤ totL l := by
  induction l with
  | nil => simp [totL]
  | cons p l ih => have := tot_pos p; rw [totL, List.length_cons]; omega
theorem sizeL_append (a b : List T) : sizeL (a ++ b) = sizeL a + sizeL b := by
  induction a with
  | nil => simp [sizeL]
  | cons p a ih => simp only [List.cons_append, sizeL, ih]; omega
theorem sizeL_take {l : List T} {k : Nat} (h : k < l.length) : sizeL (l.take (k + 1)) = sizeL (l.take k) + size l[k] := by
  rw [List.take_add_one, List.getElem?_eq_getElem h, sizeL_append]
  simp [sizeL]
mutual
theorem size_tot : ∀ x : T, size x ≤ tot x
  | .mk k p f v l => by have := sizeL_tot l; rw [size, tot]; split <;> omega
theorem sizeL_tot : ∀ l : List T, sizeL l ≤ totL l
  | [] => by simp [sizeL]
  | x :: l => by have := size_tot x; have := sizeL_tot l; rw [sizeL, totL]; omega
end
theorem sizeL_take_le {l : List T} {k : Nat} : sizeL (l.take k) ≤ totL l := Nat.le_trans (sizeL_tot _) totL_le
theorem deepL_append (a b : List T) : deepL (a ++ b) = max (deepL a) (deepL b) := by
  induction a with
  | nil => simp [deepL]
  | cons p a ih => simp only [List.cons_append, deepL, ih]; omega
theorem deepL_take {l : List T} {k : Nat} (h : k < l.length) : deepL (l.take (k + 1)) = max (deepL (l.take k)) (deep l[k]) := by
  rw [List.take_add_one, List.getElem?_eq_getElem h, deepL_append]
  simp [deepL]
mutual
theorem deep_tot : ∀ x : T, deep x ≤ tot x
  | .mk k p f v l => by have := deepL_tot l; rw [deep, tot]; omega
theorem deepL_tot : ∀ l : List T, deepL l ≤ totL l
  | [] => by simp [deepL]
  | x :: l => by have := deep_tot x; have := deepL_tot l; rw [deepL, totL]; omega
end
theorem deepL_take_le {l : List T} {k : Nat} : deepL (l.take k) ≤ totL l := Nat.le_trans (deepL_tot _) totL_le
theorem wideS_append (a b : List T) : ∀ n, wideS n (a ++ b) = wideS (wideS n a) b := by
  induction a with
  | nil => intro n; rfl
  | cons x a ih => intro n; rw [List.cons_append, wideS, wideS, ih]
theorem wideU_append (a b : List T) : ∀ n, wideU n (a ++ b) = wideU (wideU n a) b := by
  induction a with
  | nil => intro n; rfl
  | cons x a ih => intro n; rw [List.cons_append, wideU, wideU, ih]
theorem wideI_append (a b : List T) : ∀ n, wideI n (a ++ b) = wideI (wideI n a) b := by
  induction a with
  | nil => intro n; rfl
  | cons x a ih => intro n; rw [List.cons_append, wideI, wideI, ih]
theorem wideS_take (n : Nat) {l : List T} {k : Nat} (h : k < l.length) : wideS n (l.take (k + 1)) = min (wideS n (l.take k) * wide l[k]) 1000 := by
  rw [List.take_add_one, List.getElem?_eq_getElem h, wideS_append]
  rfl
theorem wideU_take (n : Nat) {l : List T} {k : Nat} (h : k < l.length) : wideU n (l.take (k + 1)) = min (wideU n (l.take k) + wide l[k]) 1000 := by
  rw [List.take_add_one, List.getElem?_eq_getElem h, wideU_append]
  rfl
theorem wideI_take (n : Nat) {l : List T} {k : Nat} (h : k < l.length) : wideI n (l.take (k + 1)) = max (wideI n (l.take k)) (wide l[k]) := by
  rw [List.take_add_one, List.getElem?_eq_getElem h, wideI_append]
  rfl
mutual
theorem wide_le : ∀ x : T, wide x ≤ 1000
  | .mk k p f v l => by
    rw [wide]
    split
    · exact wideS_le l 1 (by decide)
    split
    · exact wideU_le l 0 (by decide)
    split
    · exact wideI_le l 0 (by decide)
    · decide
theorem wideS_le : ∀ (l : List T) (n : Nat), n ≤ 1000 → wideS n l ≤ 1000
  | [], n, h => by rw [wideS]; exact h
  | x :: l, n, h => by rw [wideS]; exact wideS_le l _ (Nat.min_le_right _ _)
theorem wideU_le : ∀ (l : List T) (n : Nat), n ≤ 1000 → wideU n l ≤ 1000
  | [], n, h => by rw [wideU]; exact h
  | x :: l, n, h => by rw [wideU]; exact wideU_le l _ (Nat.min_le_right _ _)
theorem wideI_le : ∀ (l : List T) (n : Nat), n ≤ 1000 → wideI n l ≤ 1000
  | [], n, h => by rw [wideI]; exact h
  | x :: l, n, h => by have := wide_le x; rw [wideI]; exact wideI_le l _ (by omega)
end
theorem fitsL_iff (l : List T) : fitsL l = true ↔ ∀ p ∈ l, fits p = true := by
  induction l with
  | nil => simp [fitsL]
  | cons p l ih => simp only [fitsL, Bool.and_eq_true, ih, List.mem_cons, forall_eq_or_imp]
theorem sameL_iff : ∀ (a b : List T), sameL a b = true ↔ a.length = b.length ∧ ∀ (k : Nat) (x y : T), a[k]? = some x → b[k]? = some y → same x y = true
  | [], [] => by simp [sameL]
  | [], _ :: _ => by simp [sameL]
  | _ :: _, [] => by simp [sameL]
  | x :: a, y :: b => by
    simp only [sameL, Bool.and_eq_true, sameL_iff a b]
    constructor
    · rintro ⟨h1, h2, h3⟩
      refine ⟨by simp [h2], fun k p q hp hq => ?_⟩
      cases k with
      | zero => simp at hp hq; subst hp hq; exact h1
      | succ k => exact h3 k p q (by simpa using hp) (by simpa using hq)
    · rintro ⟨h1, h2⟩
      exact ⟨h2 0 x y rfl rfl, by simpa using h1, fun k p q hp hq => h2 (k + 1) p q (by simpa using hp) (by simpa using hq)⟩
theorem fits_mk {k : Int} {p : Pd.T} {f v : Int} {l : List T} (h : fits (.mk k p f v l) = true) : (k = 1 ∧ Pd.right p = true ∧ (f = 0 ∧ v = 0) ∧ l.length = 0 ∨ k = 2 ∧ none p = true ∧ (0 ≤ f ∧ f ≤ 4) ∧ (0 ≤ v ∧ v ≤ Pd.top f) ∧ l.length = 0 ∨ (k = 3 ∨ k = 4) ∧ none p = true ∧ (f = 0 ∧ v = 0) ∧ 2 ≤ l.length ∧ l.length ≤ 8 ∨ k = 5 ∧ Pd.right p = true ∧ (f = 0 ∧ v = 0) ∧ l.length = 2) ∧ ∀ x ∈ l, fits x = true := by
  rw [fits, Bool.and_eq_true, fitsL_iff] at h
  have h1 := h.1
  unfold shape at h1
  rw [decide_eq_true_eq] at h1
  exact ⟨h1, h.2⟩
end Po
end Go.Proofs.YtngodakgbldlpaaGreatDoor
