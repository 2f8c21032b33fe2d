/-
  Journals: where a controller stands behind a record.
-/
import Derived.Test.YtdalneokgejmjaaDoorSxC
namespace Go.Proofs.YtdalneokgejmjaaDoor
open Go.Sx
namespace Jr
structure Rec where
  k : Int
  u : Int
  a : Int
  b : Int
structure St where
  u : Int
  now : Int
  op : Bool
  target : Int
  at_ : Int
  armed : Int
  sure : Bool
  canc : Bool
  out : Int
def zero : St := ⟨0, 0, false, 0, 0, 0, false, false, 0⟩
def i64 (n : Int) : Prop := -9223372036854775808 ≤ n ∧ n ≤ 9223372036854775807
def Rec.ok (r : Rec) : Prop := i64 r.k ∧ i64 r.u ∧ i64 r.a ∧ i64 r.b
/-- What is so of a state that one may come to. -/
def St.ok (s : St) : Prop := i64 s.u ∧ i64 s.now ∧ i64 s.target ∧ i64 s.at_ ∧ (0 ≤ s.armed ∧ s.armed ≤ 8) ∧ (0 ≤ s.out ∧ s.out < 256)
def closed (s : St) : St := ⟨s.u, s.now, false, 0, 0, 0, false, false, s.out⟩
/-- Is a switch out? -/
def isOut (n a : Int) : Prop := (n / 2 ^ a.toNat) % 2 = 1
instance (n a : Int) : Decidable (isOut n a) := by unfold isOut; infer_instance
def beginOk (s : St) (r : Rec) : Prop := s.op = false ∧ s.out = 0 ∧ r.u = IntKind.i64.wrap (s.u + 1) ∧ (0 ≤ r.a ∧ r.a < 16) ∧ (0 ≤ r.b ∧ r.b < 1125899906842625)
def relOk (s : St) (r : Rec) : Prop := s.op = false ∧ r.b = 0 ∧ (0 ≤ r.a ∧ r.a < 8) ∧ isOut s.out r.a
def openOk (s : St) (r : Rec) : Prop := s.op = true ∧ r.b = 0 ∧ (r.a = 0 ∨ r.k = 2 ∨ r.k = 6)
instance (s : St) (r : Rec) : Decidable (beginOk s r) := by unfold beginOk; infer_instance
instance (s : St) (r : Rec) : Decidable (relOk s r) := by unfold relOk; infer_instance
instance (s : St) (r : Rec) : Decidable (openOk s r) := by unfold openOk; infer_instance
def openK (s : St) (r : Rec) : Option St :=
  if r.k = 2 then (if s.sure = false ∧ s.canc = false ∧ r.a = s.armed ∧ s.armed < 8 then some { s with armed := s.armed + 1 } else none)
  else if r.k = 3 then (if s.sure = false ∧ s.canc = false ∧ 0 < s.armed then some { s with sure := true } else none)
  else if r.k = 4 then (if s.canc = false then some { s with canc := true } else none)
  else if r.k = 5 then (if s.sure = true ∧ s.canc = false then some (closed { s with now := s.target }) else none)
  else if r.k = 6 then (if s.canc = true ∧ 0 ≤ r.a ∧ r.a < 256 then some (closed { s with out := r.a }) else none)
  else none
def next (s : St) (r : Rec) : Option St :=
  if r.k = 1 then (if beginOk s r then some ⟨r.u, s.now, true, r.a, r.b, 0, false, false, 0⟩ else none)
  else if r.u ≠ s.u then none
  else if r.k = 7 then (if relOk s r then some { s with out := s.out - 2 ^ r.a.toNat } else none)
  else if openOk s r then openK s r else none
theorem wrap_range (x : Int) : i64 (IntKind.i64.wrap x) := by
  unfold i64
  rw [IntKind.wrap_i64]
  omega
theorem next_ok {s t : St} {r : Rec} (hs : s.ok) (hr : r.ok) (h : next s r = some t) : t.ok := by
  obtain ⟨h1, h2, h3, h4, h5, h6⟩ := hs
  obtain ⟨r1, r2, r3, r4⟩ := hr
  unfold next at h
  split at h
  · split at h
    · injection h with h; subst h
      exact ⟨r2, h2, r3, r4, by dsimp only; omega, by dsimp only; omega⟩
    · cases h
  split at h
  · cases h
  split at h
  · split at h
    · rename_i hrel
      injection h with h; subst h
      obtain ⟨_, _, ⟨ha, hb⟩, ho⟩ := hrel
      refine ⟨h1, h2, h3, h4, h5, ?_⟩
      dsimp only
      unfold isOut at ho
      have : r.a = 0 ∨ r.a = 1 ∨ r.a = 2 ∨ r.a = 3 ∨ r.a = 4 ∨ r.a = 5 ∨ r.a = 6 ∨ r.a = 7 := by omega
      rcases this with e | e | e | e | e | e | e | e <;> rw [e] at ho ⊢ <;> simp at ho ⊢ <;> omega
    · cases h
  split at h
  · unfold openK at h
    split at h
    · split at h
      · injection h with h; subst h
        exact ⟨h1, h2, h3, h4, by dsimp only; omega, h6⟩
      · cases h
    split at h
    · split at h
      · injection h with h; subst h
        exact ⟨h1, h2, h3, h4, h5, h6⟩
      · cases h
    split at h
    · split at h
      · injection h with h; subst h
        exact ⟨h1, h2, h3, h4, h5, h6⟩
      · cases h
    split at h
    · split at h
      · injection h with h; subst h
        exact ⟨h1, h3, (show i64 0 from ⟨by decide, by decide⟩), (show i64 0 from ⟨by decide, by decide⟩), by simp [closed], h6⟩
      · cases h
    split at h
    · split at h
      · injection h with h; subst h
        refine ⟨h1, h2, (show i64 0 from ⟨by decide, by decide⟩), (show i64 0 from ⟨by decide, by decide⟩), by simp [closed], ?_⟩
        simp only [closed]; omega
      · cases h
    · cases h
  · cases h
/-- Behind all records: where, how many, is it so. -/
def replay (s : St) (n : Nat) : List Rec → St × Nat × Bool
  | [] => (s, n, true)
  | r :: l => match next s r with
    | some t => replay t (n + 1) l
    | none => (s, n, false)
theorem replay_ok : ∀ (l : List Rec) (s : St) (n : Nat), s.ok → (∀ r ∈ l, r.ok) → (replay s n l).1.ok
  | [], _, _, h, _ => h
  | r :: l, s, n, h, hl => by
    unfold replay
    split
    · rename_i t ht
      exact replay_ok l t (n + 1) (next_ok h (hl r (by simp)) ht) (fun x hx => hl x (by simp [hx]))
    · exact h
/-- Records of a kind, of an update. -/
def count (l : List Rec) (u k : Int) : Nat := (l.filter fun r => decide (r.u = u ∧ r.k = k)).length
def fate (l : List Rec) (u : Int) : Int := if count l u 1 = 0 then 0 else if 0 < count l u 5 then 2 else if 0 < count l u 6 then 3 else 1
end Jr
end Go.Proofs.YtdalneokgejmjaaDoor
