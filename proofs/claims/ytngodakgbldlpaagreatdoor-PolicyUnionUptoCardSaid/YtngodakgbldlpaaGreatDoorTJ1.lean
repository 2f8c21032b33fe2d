/-
  Policies: what they are; how great, how deep, how wide; the same; what may be. Plain; Policies: what comes of a packet. Plain; DERIVED: THE SHELF's CONTRACTS AT THIS DUMP, IN PLAIN WORDS (tools/lay-plain.mjs out of 'TryzShelf.lean', which tools/lay-shelf.mjs wrote): THE SAME DECLARATIONS UNDER THE SAME NAMES: 'import', 'namespace', 'open', 'def', 'theorem' AND NOTHING ELSE: no command of the shelf's: FOR A HAND-IN. Each laying: the table of numbers ('.._ren') and one theorem, a field a fact of the dump's own or the kernel's comparison; each contract: ONE APPLICATION.
-/
import Derived.Test.YtngodakgbldlpaaGreatDoorTPd1p
import Derived.Shelf.Strings.Builder1
import Derived.Shelf.Strings.Builder2
import Derived.Shelf.Strings.OnBuilder
import Derived.Shelf.Small.Bits
import Derived.Shelf.Small.Wraps
import Derived.Shelf.Strings.BuilderF
import Derived.Shelf.Strconv.Itoa0
import Derived.Shelf.Strconv.Itoa1
import Derived.Shelf.LaysM
import Derived.Shelf.Strconv.Itoa2
import Derived.Shelf.Strconv.Itoa3
import Derived.Shelf.Sort.Plain
import Derived.Ground.Names2Prog
import Derived.Shelf.Slices.CompactI
import Derived.Shelf.Slices.SearchI
import Derived.Shelf.Slices.Cells
import Derived.Shelf.Slices.In.SortNone
import Derived.Ground.SlgnProg
import Derived.Shelf.SlicesE.Compact
import Derived.Test.YtngodakgbldlpaaGreatDoorProg
namespace Go.Proofs.YtngodakgbldlpaaGreatDoor
open Go.Sx
set_option maxRecDepth 20000
set_option linter.unusedVariables false
namespace Po
inductive T where
  | mk (k : Int) (p : Pd.T) (f v : Int) (l : List T)
def T.k : T → Int | .mk k _ _ _ _ => k
def T.p : T → Pd.T | .mk _ p _ _ _ => p
def T.f : T → Int | .mk _ _ f _ _ => f
def T.v : T → Int | .mk _ _ _ v _ => v
def T.l : T → List T | .mk _ _ _ _ l => l
mutual
/-- All that lies within. -/
def tot : T → Nat
  | .mk _ p _ _ l => 1 + Pd.size p + totL l
def totL : List T → Nat
  | [] => 0
  | x :: l => tot x + totL l
end
mutual
def size : T → Nat
  | .mk k p _ _ l => 1 + (if k = 2 ∨ k = 3 ∨ k = 4 then 0 else Pd.size p) + sizeL l
def sizeL : List T → Nat
  | [] => 0
  | x :: l => size x + sizeL l
end
mutual
def deep : T → Nat
  | .mk _ _ _ _ l => 1 + deepL l
def deepL : List T → Nat
  | [] => 0
  | x :: l => max (deep x) (deepL l)
end
mutual
def wide : T → Nat
  | .mk k _ _ _ l => if k = 3 then wideS 1 l else if k = 4 then wideU 0 l else if k = 5 then wideI 0 l else 1
def wideS (n : Nat) : List T → Nat
  | [] => n
  | x :: l => wideS (min (n * wide x) 1000) l
def wideU (n : Nat) : List T → Nat
  | [] => n
  | x :: l => wideU (min (n + wide x) 1000) l
def wideI (n : Nat) : List T → Nat
  | [] => n
  | x :: l => wideI (max n (wide x)) l
end
def noneP : Pd.T := .mk 0 0 0 []
def none (p : Pd.T) : Bool := Pd.same p noneP
/-- Has it what its kind has? -/
def shape (k : Int) (p : Pd.T) (f v : Int) (n : Nat) : Bool :=
  decide (k = 1 ∧ Pd.right p = true ∧ (f = 0 ∧ v = 0) ∧ n = 0 ∨ k = 2 ∧ none p = true ∧ (0 ≤ f ∧ f ≤ 4) ∧ (0 ≤ v ∧ v ≤ Pd.top f) ∧ n = 0 ∨ (k = 3 ∨ k = 4) ∧ none p = true ∧ (f = 0 ∧ v = 0) ∧ 2 ≤ n ∧ n ≤ 8 ∨ k = 5 ∧ Pd.right p = true ∧ (f = 0 ∧ v = 0) ∧ n = 2)
mutual
def fits : T → Bool
  | .mk k p f v l => shape k p f v l.length && fitsL l
def fitsL : List T → Bool
  | [] => true
  | x :: l => fits x && fitsL l
end
def right (x : T) : Bool := fits x && (decide (deep x ≤ 8) && (decide (size x ≤ 64) && decide (wide x ≤ 64)))
/-! ### Lists -/
theorem tot_mk (k : Int) (p : Pd.T) (f v : Int) (l : List T) : tot (.mk k p f v l) = 1 + Pd.size p + totL l := by rw [tot]
theorem tot_pos : ∀ x : T, 1 ≤ tot x
  | .mk k p f v l => by rw [tot]; omega
theorem totL_append (a b : List T) : totL (a ++ b) = totL a + totL b := by
  induction a with
  | nil => simp [totL]
  | cons p a ih => simp only [List.cons_append, totL, ih]; omega
theorem totL_le {l : List T} : ∀ {k : Nat}, totL (l.take k) ≤ totL l := fun {k} => by
  have := totL_append (l.take k) (l.drop k)
  rw [List.take_append_drop] at this
  omega
theorem tot_lt {k : Int} {q : Pd.T} {f v : Int} {l : List T} {x : T} (h : x ∈ l) : tot x < tot (.mk k q f v l) := by
  have : tot x ≤ totL l := by
    induction l with
    | nil => cases h
    | cons y l ih =>
      rw [totL]
      rcases List.mem_cons.1 h with rfl | h
      · omega
      · have := ih h; omega
  rw [tot]; omega
theorem length_le (l : List T) : l.length ≤ totL l := by
  induction l with
  | nil => simp [totL]
  | cons p l ih => have := tot_pos p; rw [totL, List.length_cons]; omega
theorem sizeL_append (a b : List T) : sizeL (a ++ b) = sizeL a + sizeL b := by
  induction a with
  | nil => simp [sizeL]
  | cons p a ih => simp only [List.cons_append, sizeL, ih]; omega
theorem sizeL_take {l : List T} {k : Nat} (h : k < l.length) : sizeL (l.take (k + 1)) = sizeL (l.take k) + size l[k] := by
  rw [List.take_add_one, List.getElem?_eq_getElem h, sizeL_append]
  simp [sizeL]
mutual
theorem size_tot : ∀ x : T, size x ≤ tot x
  | .mk k p f v l => by have := sizeL_tot l; rw [size, tot]; split <;> omega
theorem sizeL_tot : ∀ l : List T, sizeL l ≤ totL l
  | [] => by simp [sizeL]
  | x :: l => by have := size_tot x; have := sizeL_tot l; rw [sizeL, totL]; omega
end
theorem sizeL_take_le {l : List T} {k : Nat} : sizeL (l.take k) ≤ totL l := Nat.le_trans (sizeL_tot _) totL_le
theorem deepL_append (a b : List T) : deepL (a ++ b) = max (deepL a) (deepL b) := by
  induction a with
  | nil => simp [deepL]
  | cons p a ih => simp only [List.cons_append, deepL, ih]; omega
theorem deepL_take {l : List T} {k : Nat} (h : k < l.length) : deepL (l.take (k + 1)) = max (deepL (l.take k)) (deep l[k]) := by
  rw [List.take_add_one, List.getElem?_eq_getElem h, deepL_append]
  simp [deepL]
mutual
theorem deep_tot : ∀ x : T, deep x ≤ tot x
  | .mk k p f v l => by have := deepL_tot l; rw [deep, tot]; omega
theorem deepL_tot : ∀ l : List T, deepL l ≤ totL l
  | [] => by simp [deepL]
  | x :: l => by have := deep_tot x; have := deepL_tot l; rw [deepL, totL]; omega
end
theorem deepL_take_le {l : List T} {k : Nat} : deepL (l.take k) ≤ totL l := Nat.le_trans (deepL_tot _) totL_le
theorem wideS_append (a b : List T) : ∀ n, wideS n (a ++ b) = wideS (wideS n a) b := by
  induction a with
  | nil => intro n; rfl
  | cons x a ih => intro n; rw [List.cons_append, wideS, wideS, ih]
theorem wideU_append (a b : List T) : ∀ n, wideU n (a ++ b) = wideU (wideU n a) b := by
  induction a with
  | nil => intro n; rfl
  | cons x a ih => intro n; rw [List.cons_append, wideU, wideU, ih]
theorem wideI_append (a b : List T) : ∀ n, wideI n (a ++ b) = wideI (wideI n a) b := by
  induction a with
  | nil => intro n; rfl
  | cons x a ih => intro n; rw [List.cons_append, wideI, wideI, ih]
theorem wideS_take (n : Nat) {l : List T} {k : Nat} (h : k < l.length) : wideS n (l.take (k + 1)) = min (wideS n (l.take k) * wide l[k]) 1000 := by
  rw [List.take_add_one, List.getElem?_eq_getElem h, wideS_append]
  rfl
theorem wideU_take (n : Nat) {l : List T} {k : Nat} (h : k < l.length) : wideU n (l.take (k + 1)) = min (wideU n (l.take k) + wide l[k]) 1000 := by
  rw [List.take_add_one, List.getElem?_eq_getElem h, wideU_append]
  rfl
theorem wideI_take (n : Nat) {l : List T} {k : Nat} (h : k < l.length) : wideI n (l.take (k + 1)) = max (wideI n (l.take k)) (wide l[k]) := by
  rw [List.take_add_one, List.getElem?_eq_getElem h, wideI_append]
  rfl
mutual
theorem wide_le : ∀ x : T, wide x ≤ 1000
  | .mk k p f v l => by
    rw [wide]
    split
    · exact wideS_le l 1 (by decide)
    split
    · exact wideU_le l 0 (by decide)
    split
    · exact wideI_le l 0 (by decide)
    · decide
theorem wideS_le : ∀ (l : List T) (n : Nat), n ≤ 1000 → wideS n l ≤ 1000
  | [], n, h => by rw [wideS]; exact h
  | x :: l, n, h => by rw [wideS]; exact wideS_le l _ (Nat.min_le_right _ _)
theorem wideU_le : ∀ (l : List T) (n : Nat), n ≤ 1000 → wideU n l ≤ 1000
  | [], n, h => by rw [wideU]; exact h
  | x :: l, n, h => by rw [wideU]; exact wideU_le l _ (Nat.min_le_right _ _)
theorem wideI_le : ∀ (l : List T) (n : Nat), n ≤ 1000 → wideI n l ≤ 1000
  | [], n, h => by rw [wideI]; exact h
  | x :: l, n, h => by have := wide_le x; rw [wideI]; exact wideI_le l _ (by omega)
end
theorem fitsL_iff (l : List T) : fitsL l = true ↔ ∀ p ∈ l, fits p = true := by
  induction l with
  | nil => simp [fitsL]
  | cons p l ih => simp only [fitsL, Bool.and_eq_true, ih, List.mem_cons, forall_eq_or_imp]
end Po
end Go.Proofs.YtngodakgbldlpaaGreatDoor
namespace Go.Proofs.YtngodakgbldlpaaGreatDoor
open Go.Sx
set_option maxRecDepth 20000
set_option linter.unusedVariables false
namespace Po
/-- A packet that goes out of a port. -/
structure S where
  port : Int
  p0 : Int
  p1 : Int
  p2 : Int
  p3 : Int
deriving DecidableEq
def S.at_ (sw : Int) (s : S) : Pd.At := ⟨sw, s.port, s.p0, s.p1, s.p2, s.p3⟩
def S.av (s : S) : List AV := [.int .i64 s.port, .int .i64 s.p0, .int .i64 s.p1, .int .i64 s.p2, .int .i64 s.p3]
def S.vs (s : S) : List Value := [.int .i64 s.port, .int .i64 s.p0, .int .i64 s.p1, .int .i64 s.p2, .int .i64 s.p3]
def S.key (s : S) : Value := .agg #[.int .i64 s.port, .int .i64 s.p0, .int .i64 s.p1, .int .i64 s.p2, .int .i64 s.p3]
theorem S.key_inj {x y : S} (h : x.key = y.key) : x = y := by
  obtain ⟨a, b, c, d, e⟩ := x
  obtain ⟨a', b', c', d', e'⟩ := y
  unfold S.key at h
  injection h with h
  simp at h
  obtain ⟨rfl, rfl, rfl, rfl, rfl⟩ := h
  rfl
theorem S.den (s : S) : denL s.av = s.vs := rfl
/-- The greatest number of a packet's field. -/
def ptop (f : Int) : Int := if f = 2 then 15 else if f = 0 ∨ f = 1 ∨ f = 3 then 255 else 0
def withS (f v : Int) (s : S) : S :=
  if (0 ≤ f ∧ f < 4) ∧ 0 ≤ v ∧ v ≤ ptop f then (if f = 0 then { s with p0 := v } else if f = 1 then { s with p1 := v } else if f = 2 then { s with p2 := v } else { s with p3 := v }) else s
def put (f v : Int) (s : S) : S := if f = 4 then { s with port := v } else withS f v s
/-! ### Which stands first -/
def cmpI (a b : Int) : Int := if a < b then -1 else if b < a then 1 else 0
def cmpS (x y : S) : Int :=
  if cmpI x.port y.port ≠ 0 then cmpI x.port y.port else if cmpI x.p0 y.p0 ≠ 0 then cmpI x.p0 y.p0 else if cmpI x.p1 y.p1 ≠ 0 then cmpI x.p1 y.p1 else if cmpI x.p2 y.p2 ≠ 0 then cmpI x.p2 y.p2 else cmpI x.p3 y.p3
def ahead (x y : S) : Prop := x.port < y.port ∨ x.port = y.port ∧ (x.p0 < y.p0 ∨ x.p0 = y.p0 ∧ (x.p1 < y.p1 ∨ x.p1 = y.p1 ∧ (x.p2 < y.p2 ∨ x.p2 = y.p2 ∧ x.p3 < y.p3)))
instance (x y : S) : Decidable (ahead x y) := by unfold ahead; infer_instance
theorem cmpI_lt (a b : Int) : cmpI a b < 0 ↔ a < b := by unfold cmpI; split <;> first | omega | (split <;> omega)
theorem cmpI_0 (a b : Int) : cmpI a b = 0 ↔ a = b := by unfold cmpI; split <;> first | omega | (split <;> omega)
theorem cmpS_lt (x y : S) : cmpS x y < 0 ↔ ahead x y := by
  unfold cmpS ahead
  have h1 := cmpI_lt x.port y.port
  have h2 := cmpI_0 x.port y.port
  have h3 := cmpI_lt x.p0 y.p0
  have h4 := cmpI_0 x.p0 y.p0
  have h5 := cmpI_lt x.p1 y.p1
  have h6 := cmpI_0 x.p1 y.p1
  have h7 := cmpI_lt x.p2 y.p2
  have h8 := cmpI_0 x.p2 y.p2
  have h9 := cmpI_lt x.p3 y.p3
  repeat' split
  all_goals omega
theorem ahead_irrefl (x : S) : ¬ ahead x x := by unfold ahead; omega
theorem ahead_trans {x y z : S} (h : ahead x y) (k : ahead y z) : ahead x z := by unfold ahead at *; omega
theorem ahead_or {x y : S} (h : ¬ ahead x y) (k : ¬ ahead y x) : x = y := by
  obtain ⟨a, b, c, d, e⟩ := x
  obtain ⟨a', b', c', d', e'⟩ := y
  unfold ahead at *
  simp only at h k
  simp only [S.mk.injEq]
  omega
abbrev Rising (l : List S) : Prop := l.Pairwise ahead
theorem rising_eq : ∀ {a b : List S}, Rising a → Rising b → (∀ t, t ∈ a ↔ t ∈ b) → a = b
  | [], [], _, _, _ => rfl
  | [], y :: b, _, _, h => by have := (h y).2 (by simp); cases this
  | x :: a, [], _, _, h => by have := (h x).1 (by simp); cases this
  | x :: a, y :: b, ha, hb, h => by
    have ha' := List.pairwise_cons.1 ha
    have hb' := List.pairwise_cons.1 hb
    have hxy : x = y := by
      have h1 := (h x).1 (by simp)
      have h2 := (h y).2 (by simp)
      rcases List.mem_cons.1 h1 with h1 | h1
      · exact h1
      · rcases List.mem_cons.1 h2 with h2 | h2
        · exact h2.symm
        · exact absurd (ahead_trans (hb'.1 x h1) (ha'.1 y h2)) (ahead_irrefl y)
    subst hxy
    congr 1
    refine rising_eq ha'.2 hb'.2 fun t => ?_
    have ht := h t
    simp only [List.mem_cons] at ht
    constructor
    · intro hta
      rcases ht.1 (.inr hta) with rfl | h1
      · exact absurd (ha'.1 t hta) (ahead_irrefl t)
      · exact h1
    · intro htb
      rcases ht.2 (.inr htb) with rfl | h1
      · exact absurd (hb'.1 t htb) (ahead_irrefl t)
      · exact h1
/-- A packet in its place, once. -/
def ins (s : S) : List S → List S
  | [] => [s]
  | x :: l => if x = s then x :: l else if ahead s x then s :: x :: l else x :: ins s l
theorem mem_ins (s t : S) (l : List S) : t ∈ ins s l ↔ t = s ∨ t ∈ l := by
  induction l with
  | nil => simp [ins]
  | cons x l ih =>
    unfold ins
    split
    · rename_i h
      subst h
      simp
    · split
      · simp
      · simp only [List.mem_cons, ih]
        constructor
        iterate 2
          · rintro (h | h | h) <;> simp [h]
theorem ins_rising (s : S) {l : List S} (h : Rising l) : Rising (ins s l) := by
  induction l with
  | nil => simp [ins]
  | cons x l ih =>
    have h' := List.pairwise_cons.1 h
    unfold ins
    split
    · exact h
    · rename_i hne
      split
      · rename_i ha
        refine List.pairwise_cons.2 ⟨fun t ht => ?_, h⟩
        rcases List.mem_cons.1 ht with rfl | ht
        · exact ha
        · exact ahead_trans ha (h'.1 t ht)
      · rename_i ha
        refine List.pairwise_cons.2 ⟨fun t ht => ?_, ih h'.2⟩
        rcases (mem_ins s t l).1 ht with rfl | ht
        · exact Classical.byContradiction fun hn => hne (ahead_or hn ha)
        · exact h'.1 t ht
def both (a b : List S) : List S := b.foldl (fun acc s => ins s acc) a
theorem mem_both (t : S) : ∀ (b a : List S), t ∈ both a b ↔ t ∈ a ∨ t ∈ b
  | [], a => by simp [both]
  | x :: b, a => by
    have := mem_both t b (ins x a)
    unfold both at *
    rw [List.foldl_cons, this, mem_ins, List.mem_cons]
    constructor
    · rintro ((h | h) | h) <;> simp [h]
    · rintro (h | h | h) <;> simp [h]
theorem both_rising : ∀ (b : List S) {a : List S}, Rising a → Rising (both a b)
  | [], a, h => h
  | x :: b, a, h => both_rising b (ins_rising x h)
mutual
/-- What comes. -/
def runs (sw : Int) : T → S → List S
  | .mk k p f v l, s => if k = 1 then (if Pd.hits (s.at_ sw) p = true then [s] else []) else if k = 2 then [put f v s] else if k = 3 then runsQ sw l [s] else if k = 4 then runsU sw l s [] else if k = 5 then (if Pd.hits (s.at_ sw) p = true then runsA sw l s else runsB sw l s) else []
def runsQ (sw : Int) : List T → List S → List S
  | [], out => out
  | y :: l, out => runsQ sw l (out.foldl (fun next t => both next (runs sw y t)) [])
def runsU (sw : Int) : List T → S → List S → List S
  | [], _, out => out
  | y :: l, s, out => runsU sw l s (both out (runs sw y s))
def runsA (sw : Int) : List T → S → List S
  | [], _ => []
  | y :: _, s => runs sw y s
def runsB (sw : Int) : List T → S → List S
  | [], _ => []
  | _ :: l, s => runsA sw l s
end
/-- One part of a sequence. -/
def thenS (sw : Int) (y : T) (out : List S) : List S := out.foldl (fun next t => both next (runs sw y t)) []
theorem mem_fold (sw : Int) (y : T) (t : S) : ∀ (out a : List S), t ∈ out.foldl (fun next t => both next (runs sw y t)) a ↔ t ∈ a ∨ ∃ s ∈ out, t ∈ runs sw y s
  | [], a => by simp
  | x :: out, a => by
    rw [List.foldl_cons, mem_fold sw y t out, mem_both]
    simp only [List.mem_cons, exists_eq_or_imp, or_assoc]
theorem mem_then (sw : Int) (y : T) (t : S) (out : List S) : t ∈ thenS sw y out ↔ ∃ s ∈ out, t ∈ runs sw y s := by unfold thenS; rw [mem_fold]; simp
theorem fold_rising (sw : Int) (y : T) : ∀ (out : List S) {a : List S}, Rising a → Rising (out.foldl (fun next t => both next (runs sw y t)) a)
  | [], a, h => h
  | x :: out, a, h => by rw [List.foldl_cons]; exact fold_rising sw y out (both_rising _ h)
theorem then_rising (sw : Int) (y : T) (out : List S) : Rising (thenS sw y out) := fold_rising sw y out List.Pairwise.nil
theorem runsQ_append (sw : Int) (a b : List T) : ∀ out, runsQ sw (a ++ b) out = runsQ sw b (runsQ sw a out) := by
  induction a with
  | nil => intro out; simp [runsQ]
  | cons y a ih => intro out; rw [List.cons_append, runsQ, runsQ, ih]
theorem runsQ_one (sw : Int) (y : T) (out : List S) : runsQ sw [y] out = thenS sw y out := by rw [runsQ, runsQ]; rfl
theorem runsQ_take (sw : Int) {l : List T} {k : Nat} (h : k < l.length) (out : List S) : runsQ sw (l.take (k + 1)) out = thenS sw l[k] (runsQ sw (l.take k) out) := by
  rw [List.take_add_one, List.getElem?_eq_getElem h, Option.toList_some, runsQ_append, runsQ_one]
theorem mem_runsU (sw : Int) (s t : S) : ∀ (l : List T) (out : List S), t ∈ runsU sw l s out ↔ t ∈ out ∨ ∃ y ∈ l, t ∈ runs sw y s
  | [], out => by simp [runsU]
  | y :: l, out => by
    rw [runsU, mem_runsU sw s t l, mem_both]
    simp only [List.mem_cons, exists_eq_or_imp, or_assoc]
theorem runsQ_rising (sw : Int) : ∀ (l : List T) {out : List S}, Rising out → Rising (runsQ sw l out)
  | [], out, h => by rw [runsQ]; exact h
  | y :: l, out, h => by rw [runsQ]; exact runsQ_rising sw l (then_rising sw y out)
theorem runsU_rising (sw : Int) (s : S) : ∀ (l : List T) {out : List S}, Rising out → Rising (runsU sw l s out)
  | [], out, h => by rw [runsU]; exact h
  | y :: l, out, h => by rw [runsU]; exact runsU_rising sw s l (both_rising _ h)
theorem runs_mk (sw k : Int) (p : Pd.T) (f v : Int) (l : List T) (s : S) : runs sw (.mk k p f v l) s = if k = 1 then (if Pd.hits (s.at_ sw) p = true then [s] else []) else if k = 2 then [put f v s] else if k = 3 then runsQ sw l [s] else if k = 4 then runsU sw l s [] else if k = 5 then (if Pd.hits (s.at_ sw) p = true then runsA sw l s else runsB sw l s) else [] := by rw [runs]
theorem runs_rising (sw : Int) (s : S) : ∀ (n : Nat) (x : T), tot x ≤ n → Rising (runs sw x s)
  | 0, x, hn => absurd (tot_pos x) (by omega)
  | n + 1, ⟨k, p, f, v, l⟩, hn => by
    have ih : ∀ y ∈ l, Rising (runs sw y s) := fun y hy => runs_rising sw s n y (by have := tot_lt (k := k) (q := p) (f := f) (v := v) hy; omega)
    rw [runs_mk]
    split
    · split <;> simp
    split
    · simp
    split
    · exact runsQ_rising sw l (by simp)
    split
    · exact runsU_rising sw s l List.Pairwise.nil
    split
    · split
      · cases l with
        | nil => rw [runsA]; exact List.Pairwise.nil
        | cons y l => rw [runsA]; exact ih y (by simp)
      · match l with
        | [] => rw [runsB]; exact List.Pairwise.nil
        | [a] => rw [runsB, runsA]; exact List.Pairwise.nil
        | a :: y :: l => rw [runsB, runsA]; exact ih y (by simp)
    · exact List.Pairwise.nil
end Po
end Go.Proofs.YtngodakgbldlpaaGreatDoor
namespace Go.Proofs
open Go.Shelf
def Tryz.lays156_ren : Go.Shelf.Ren := ⟨fun | 156 => 56 | 165 => 82 | 166 => 83 | 169 => 84 | 240 => 110 | 241 => 111 | 276 => 136 | 277 => 137 | n => n, fun | 31 => 85 | 9 => 9 | 3 => 3 | 4 => 4 | 0 => 0 | 20 => 20 | 72 => 112 | 76 => 116 | 70 => 109 | 37 => 110 | 75 => 115 | 127 => 144 | 164 => 161 | 5 => 5 | 80 => 118 | n => n, fun | n => n⟩
theorem Tryz.lays156 : Go.Proofs.Lays.n156 Tryz.prog Tryz.lays156_ren := {
  mixed := by kernel_rfl
  f156 := Tryz.func56.trans (congrArg some (by kernel_rfl))
  f165 := Tryz.func82.trans (congrArg some (by kernel_rfl))
  f166 := Tryz.func83.trans (congrArg some (by kernel_rfl))
  f169 := Tryz.func84.trans (congrArg some (by kernel_rfl))
  f240 := Tryz.func110.trans (congrArg some (by kernel_rfl))
  f241 := Tryz.func111.trans (congrArg some (by kernel_rfl))
  f276 := Tryz.func136.trans (congrArg some (by kernel_rfl))
  f277 := Tryz.func137.trans (congrArg some (by kernel_rfl))
  t0 := Tryz.underlying0
  a0 := Tryz.isAgg0
  z0 := Tryz.sizeOf0
  v0 := Tryz.zeroValue0
  t3 := Tryz.underlying3
  a3 := Tryz.isAgg3
  z3 := Tryz.sizeOf3
  v3 := Tryz.zeroValue3
  t4 := Tryz.underlying4
  a4 := Tryz.isAgg4
  z4 := Tryz.sizeOf4
  v4 := Tryz.zeroValue4
  t9 := Tryz.underlying9
  a9 := Tryz.isAgg9
  z9 := Tryz.sizeOf9
  v9 := Tryz.zeroValue9
  t20 := Tryz.underlying20
  a20 := Tryz.isAgg20
  z20 := Tryz.sizeOf20
  v20 := Tryz.zeroValue20
  t31 := Tryz.underlying85
  a31 := Tryz.isAgg85
  z31 := Tryz.sizeOf85
  v31 := Tryz.zeroValue85
  t37 := Tryz.underlying110
  a37 := Tryz.isAgg110
  z37 := Tryz.sizeOf110
  v37 := Tryz.zeroValue110
  t70 := Tryz.underlying109
  a70 := Tryz.isAgg109
  z70 := Tryz.sizeOf109
  v70 := Tryz.zeroValue109
  t72 := Tryz.underlying112
  a72 := Tryz.isAgg112
  z72 := Tryz.sizeOf112
  v72 := Tryz.zeroValue112
  t75 := Tryz.underlying115
  a75 := Tryz.isAgg115
  z75 := Tryz.sizeOf115
  v75 := Tryz.zeroValue115
  t76 := Tryz.underlying116
  a76 := Tryz.isAgg116
  z76 := Tryz.sizeOf116
  v76 := Tryz.zeroValue116
  t127 := Tryz.underlying144
  a127 := Tryz.isAgg144
  z127 := Tryz.sizeOf144
  v127 := Tryz.zeroValue144
  t164 := Tryz.underlying161
  a164 := Tryz.isAgg161
  z164 := Tryz.sizeOf161
  v164 := Tryz.zeroValue161 }
theorem Tryz.Builder_Extra_156 : Builder.Extra Tryz.prog Tryz.lays156_ren := {
  sizeBuilder := by kernel_rfl
  liesBuilder := by kernel_rfl
  t5 := Tryz.underlying5
  a5 := Tryz.isAgg5
  z5 := Tryz.sizeOf5
  v5 := Tryz.zeroValue5
  infoByte := by kernel_rfl
  cellsByte := by kernel_rfl
  sizeByte := by kernel_rfl
  neB5 := by decide }
open Go.RowKit in
/-- No element: the empty string; the world is as it was. (Whatever the slice's address and capacity: a nil slice too.) (LAID: no walk: one application.) -/
theorem Tryz.strings_Join_none (a : Option Addr) (c : Nat) (sep : ByteArray) (w : World) :
    Calls Tryz.prog 56 #[.slice a 0 c, .string sep] w fun e w' => e = .returned (.string ⟨#[]⟩) ∧ w' = w := Any.strings_Join_none Tryz.lays156 Tryz.Builder_Extra_156 a c sep w
open Go.RowKit in
/-- strings.Join: "Join concatenates the elements of its first argument to create a single string. The separator string sep is placed between elements in the resulting string.": HOWEVER MANY ELEMENTS. Below the heap's end the world is as it was. (LAID: no walk: one application.) -/
theorem Tryz.strings_Join (bk o c : Nat) (xs : List ByteArray) (sep : ByteArray) (w : World) (hcells : ∀ (j : Nat) x, xs[j]? = some x → w.cell? ⟨bk, o + j, none⟩ = some (.string x)) (hbk : bk < w.heap.size) (hN : xs.length ≤ 140737488355328) (hcap : xs.length ≤ c) (hlen : (Lib.join (xs.map (·.data.toList)) sep.data.toList).length ≤ 140737488355328) :
    Calls Tryz.prog 56 #[.slice (some ⟨bk, o, none⟩) xs.length c, .string sep] w fun e w' => e = .returned (.string ⟨(Lib.join (xs.map (·.data.toList)) sep.data.toList).toArray⟩) ∧ Below w.heap.size w w' := Any.strings_Join Tryz.lays156 Tryz.Builder_Extra_156 bk o c xs sep w hcells hbk hN hcap hlen
def Tryz.laysM171_ren : Go.Shelf.Ren := ⟨fun | 171 => 55 | 243 => 81 | 246 => 109 | 283 => 132 | 284 => 133 | 285 => 134 | 286 => 135 | 129 => 108 | 317 => 146 | 318 => 147 | 319 => 148 | 320 => 149 | 337 => 151 | 338 => 152 | n => n, fun | 3 => 3 | 9 => 9 | 2 => 2 | 4 => 4 | 171 => 157 | 0 => 0 | 53 => 142 | 37 => 110 | 5 => 5 | 173 => 159 | 212 => 171 | 51 => 140 | 20 => 20 | 213 => 172 | 46 => 107 | 232 => 174 | 233 => 175 | n => n, fun | 17 => 0 | 18 => 2 | 19 => 3 | n => n⟩
theorem Tryz.laysM171 : Go.Proofs.LaysM.n171 Tryz.prog Tryz.laysM171_ren := {
  mixed := by kernel_rfl
  f129 := Tryz.func108.trans (congrArg some (by kernel_rfl))
  f171 := Tryz.func55.trans (congrArg some (by kernel_rfl))
  f243 := Tryz.func81.trans (congrArg some (by kernel_rfl))
  f246 := Tryz.func109.trans (congrArg some (by kernel_rfl))
  f283 := Tryz.func132.trans (congrArg some (by kernel_rfl))
  f284 := Tryz.func133.trans (congrArg some (by kernel_rfl))
  f285 := Tryz.func134.trans (congrArg some (by kernel_rfl))
  f286 := Tryz.func135.trans (congrArg some (by kernel_rfl))
  f317 := Tryz.func146.trans (congrArg some (by kernel_rfl))
  f318 := Tryz.func147.trans (congrArg some (by kernel_rfl))
  f319 := Tryz.func148.trans (congrArg some (by kernel_rfl))
  f320 := Tryz.func149.trans (congrArg some (by kernel_rfl))
  f337 := Tryz.func151.trans (congrArg some (by kernel_rfl))
  f338 := Tryz.func152.trans (congrArg some (by kernel_rfl))
  t0 := Tryz.underlying0
  a0 := Tryz.isAgg0
  z0 := Tryz.sizeOf0
  v0 := Tryz.zeroValue0
  t2 := Tryz.underlying2
  a2 := Tryz.isAgg2
  z2 := Tryz.sizeOf2
  v2 := Tryz.zeroValue2
  t3 := Tryz.underlying3
  a3 := Tryz.isAgg3
  z3 := Tryz.sizeOf3
  v3 := Tryz.zeroValue3
  t4 := Tryz.underlying4
  a4 := Tryz.isAgg4
  z4 := Tryz.sizeOf4
  v4 := Tryz.zeroValue4
  t5 := Tryz.underlying5
  a5 := Tryz.isAgg5
  z5 := Tryz.sizeOf5
  v5 := Tryz.zeroValue5
  t9 := Tryz.underlying9
  a9 := Tryz.isAgg9
  z9 := Tryz.sizeOf9
  v9 := Tryz.zeroValue9
  t20 := Tryz.underlying20
  a20 := Tryz.isAgg20
  z20 := Tryz.sizeOf20
  v20 := Tryz.zeroValue20
  t37 := Tryz.underlying110
  a37 := Tryz.isAgg110
  z37 := Tryz.sizeOf110
  v37 := Tryz.zeroValue110
  t46 := Tryz.underlying107
  a46 := Tryz.isAgg107
  z46 := Tryz.sizeOf107
  v46 := Tryz.zeroValue107
  t51 := Tryz.underlying140
  a51 := Tryz.isAgg140
  z51 := Tryz.sizeOf140
  v51 := Tryz.zeroValue140
  t53 := Tryz.underlying142
  a53 := Tryz.isAgg142
  z53 := Tryz.sizeOf142
  v53 := Tryz.zeroValue142
  t171 := Tryz.underlying157
  a171 := Tryz.isAgg157
  z171 := Tryz.sizeOf157
  v171 := Tryz.zeroValue157
  t173 := Tryz.underlying159
  a173 := Tryz.isAgg159
  z173 := Tryz.sizeOf159
  v173 := Tryz.zeroValue159
  t212 := Tryz.underlying171
  a212 := Tryz.isAgg171
  z212 := Tryz.sizeOf171
  v212 := Tryz.zeroValue171
  t213 := Tryz.underlying172
  a213 := Tryz.isAgg172
  z213 := Tryz.sizeOf172
  t232 := Tryz.underlying174
  a232 := Tryz.isAgg174
  z232 := Tryz.sizeOf174
  v232 := Tryz.zeroValue174
  t233 := Tryz.underlying175
  a233 := Tryz.isAgg175
  z233 := Tryz.sizeOf175
  v233 := Tryz.zeroValue175
  g17 := by kernel_rfl
  g18 := by kernel_rfl
  g19 := by kernel_rfl
  i0 := by kernel_rfl
  i2 := by kernel_rfl
  i3 := by kernel_rfl
  i4 := by kernel_rfl
  i5 := by kernel_rfl
  i9 := by kernel_rfl
  i20 := by kernel_rfl
  i37 := by kernel_rfl
  i46 := by kernel_rfl
  i51 := by kernel_rfl
  i53 := by kernel_rfl
  i171 := by kernel_rfl
  i173 := by kernel_rfl
  i212 := by kernel_rfl
  i232 := by kernel_rfl
  i233 := by kernel_rfl
  m17 := by kernel_rfl
  m18 := by kernel_rfl
  m19 := by kernel_rfl }
open Go.RowKit Go.Sort Go.Lib in
/-- strconv.Itoa: "Itoa is equivalent to FormatInt(int64(i), 10).": i's DECIMAL NUMERAL ('Lib.itoa': a '-' where i is negative, then the digits), FOR EVERY int. The world behind the call: the world before it, new blocks behind the heap (the library's 'var a [24]byte'), draws. (LAID: no walk: one application.) -/
theorem Tryz.strconv_Itoa (n : Int) (h0 : -9223372036854775808 ≤ n) (h1 : n ≤ 9223372036854775807) (w : World) (htab : Lib.TabIs Tryz.prog w "internal/strconv.uint64pow10" .u64 Lib.pow10Tab) :
    Calls Tryz.prog 55 #[.int .i64 n] w fun e w' => e = .returned (.string ⟨(Lib.itoa n).toArray⟩) ∧ ∃ k os, w' = grow (w.drewN k) os := Any.strconv_Itoa Tryz.laysM171 n h0 h1 w htab
end Go.Proofs
