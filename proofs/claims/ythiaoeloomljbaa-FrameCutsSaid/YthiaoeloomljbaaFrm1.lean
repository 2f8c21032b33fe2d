/-
  Frames: what they are, and that the reference says the same.
-/
import Derived.Test.YthiaoeloomljbaaCrc5
import Derived.Test.YthiaoeloomljbaaOct5
namespace Go.Proofs.Ythiaoeloomljbaa
open Go.Sx
set_option maxRecDepth 20000
namespace Frm
/-- What stands ahead of a body, and the body. -/
def hd (b : List UInt8) : List UInt8 := [1] ++ Oct.num b.length 2 ++ b
def pack (b : List UInt8) : List UInt8 := if 2000 < b.length then [] else CrcPure.shut (hd b)
/-- The number behind the first byte. -/
def two (s : List UInt8) : Nat := (s.getD 1 0).toNat * 256 + (s.getD 2 0).toNat
def size (s : List UInt8) : Int × Int :=
  if s = [] ∨ (s.getD 0 0).toNat ≠ 1 then (0, 5) else if s.length < 3 then (0, 3) else if 2000 < two s then (0, 6) else ((two s : Int) + 6, 0)
def next (s : List UInt8) : List UInt8 × List UInt8 × Int :=
  if (size s).2 = 3 ∨ s = [] ∨ ((size s).2 = 0 ∧ (s.length : Int) < (size s).1) then ([], s, 3)
  else if (size s).2 ≠ 0 then ([], [], (size s).2)
  else if (CrcPure.open_ (s.take (two s + 6))).2 = true then ((CrcPure.open_ (s.take (two s + 6))).1.drop 3, s.drop (two s + 6), 0) else ([], [], 4)
/-- All frames, so many at the most. -/
def splitN : Nat → List UInt8 → List (List UInt8) × List UInt8 × Int
  | 0, s => ([], s, 0)
  | n + 1, s => if (next s).2.2 = 0 then ((next s).1 :: (splitN n (next s).2.1).1, (splitN n (next s).2.1).2) else if (next s).2.2 = 3 then ([], s, 0) else ([], [], (next s).2.2)
def split (s : List UInt8) : List (List UInt8) × List UInt8 × Int := splitN (s.length + 1) s

theorem two_lt (s : List UInt8) : two s < 65536 := by
  unfold two
  have h1 := (s.getD 1 0).toNat_lt
  have h2 := (s.getD 2 0).toNat_lt
  omega
theorem num2 (n : Nat) (h : n < 65536) : Oct.num n 2 = [UInt8.ofNat (n / 256), UInt8.ofNat n] := by
  unfold Oct.num
  rw [if_neg (by simp; omega)]
  simp [Oct.be]
theorem num2_len (n : Nat) (h : n < 65536) : (Oct.num n 2).length = 2 := by rw [num2 n h]; rfl
theorem hd_len (b : List UInt8) (h : b.length < 65536) : (hd b).length = b.length + 3 := by
  unfold hd
  have := num2_len _ h
  simp only [List.length_append, List.length_singleton, this]
  omega
theorem pack_len (b : List UInt8) (h : b.length ≤ 2000) : (pack b).length = b.length + 6 := by
  unfold pack
  rw [if_neg (by omega), CrcPure.shut_len, hd_len b (by omega)]
theorem pack_le (b : List UInt8) : (pack b).length ≤ 2006 := by
  by_cases h : b.length ≤ 2000
  · rw [pack_len b h]; omega
  · unfold pack; rw [if_pos (by omega)]; simp
theorem size_err (s : List UInt8) : (size s).2 = 0 ∨ (size s).2 = 3 ∨ (size s).2 = 5 ∨ (size s).2 = 6 := by
  unfold size
  split
  · simp
  split
  · simp
  split <;> simp
theorem size_0 (s : List UInt8) (h : (size s).2 = 0) : s ≠ [] ∧ (s.getD 0 0).toNat = 1 ∧ 3 ≤ s.length ∧ two s ≤ 2000 ∧ (size s).1 = (two s : Int) + 6 := by
  unfold size at h ⊢
  split at h
  · simp at h
  rename_i h1
  split at h
  · simp at h
  rename_i h2
  split at h
  · simp at h
  rename_i h3
  rw [if_neg h1, if_neg h2, if_neg h3]
  refine ⟨fun e => h1 (.inl e), Decidable.byContradiction fun e => h1 (.inr e), by omega, by omega, rfl⟩
theorem next_err (s : List UInt8) : (next s).2.2 = 0 ∨ (next s).2.2 = 3 ∨ (next s).2.2 = 4 ∨ (next s).2.2 = 5 ∨ (next s).2.2 = 6 := by
  unfold next
  split
  · simp
  split
  · have := size_err s
    dsimp only
    omega
  · split <;> simp
theorem next_ok (s : List UInt8) (h : (next s).2.2 = 0) : (size s).2 = 0 ∧ two s + 6 ≤ s.length ∧ (CrcPure.open_ (s.take (two s + 6))).2 = true ∧ (next s).1 = (CrcPure.open_ (s.take (two s + 6))).1.drop 3 ∧ (next s).2.1 = s.drop (two s + 6) := by
  unfold next at h ⊢
  split at h
  · simp at h
  rename_i h1
  split at h
  · rename_i h2; exact (h2 h).elim
  rename_i h2
  have h0 : (size s).2 = 0 := Decidable.byContradiction fun e => h2 e
  split at h
  · rename_i h3
    rw [if_neg h1, if_neg h2, if_pos h3]
    refine ⟨h0, ?_, h3, rfl, rfl⟩
    have := size_0 s h0
    have h4 : ¬ ((s.length : Int) < (size s).1) := fun e => h1 (.inr (.inr ⟨h0, e⟩))
    rw [this.2.2.2.2] at h4
    omega
  · simp at h
theorem next_less (s : List UInt8) (h : (next s).2.2 = 0) : (next s).2.1.length < s.length := by
  obtain ⟨_, h1, _, _, h2⟩ := next_ok s h
  rw [h2, List.length_drop]
  omega
/-- More rounds than there are frames change nothing. -/
theorem splitN_more : ∀ (n m : Nat) (s : List UInt8), s.length < n → s.length < m → splitN n s = splitN m s
  | 0, _, _, h, _ => by omega
  | _, 0, _, _, h => by omega
  | n + 1, m + 1, s, hn, hm => by
    unfold splitN
    by_cases h : (next s).2.2 = 0
    · have := next_less s h
      rw [if_pos h, if_pos h, splitN_more n m _ (by omega) (by omega)]
    · rw [if_neg h, if_neg h]
theorem split_eq (s : List UInt8) : split s = if (next s).2.2 = 0 then ((next s).1 :: (split (next s).2.1).1, (split (next s).2.1).2) else if (next s).2.2 = 3 then ([], s, 0) else ([], [], (next s).2.2) := by
  unfold split
  conv => lhs; unfold splitN
  by_cases h : (next s).2.2 = 0
  · have := next_less s h
    rw [if_pos h, if_pos h, splitN_more s.length ((next s).2.1.length + 1) _ this (by omega)]
  · rw [if_neg h, if_neg h]
theorem split_err (s : List UInt8) : ∀ n, s.length < n → (split s).2.2 = 0 ∨ (split s).2.2 = 4 ∨ (split s).2.2 = 5 ∨ (split s).2.2 = 6 := by
  intro n
  induction n generalizing s with
  | zero => intro h; omega
  | succ n ih =>
    intro h
    rw [split_eq]
    by_cases h0 : (next s).2.2 = 0
    · have := next_less s h0
      rw [if_pos h0]
      exact ih _ (by omega)
    · rw [if_neg h0]
      have := next_err s
      split
      · simp
      · dsimp only; omega

/-! ### The reference -/
def refnext (s : List UInt8) : List UInt8 × List UInt8 × Int :=
  if s = [] then ([], [], 3)
  else if (size s).2 = 3 ∨ ((size s).2 = 0 ∧ (s.length : Int) < (size s).1) then ([], s, 3)
  else if (size s).2 ≠ 0 then ([], [], (size s).2)
  else if pack ((s.drop 3).take (two s)) = s.take (two s + 6) then ((s.drop 3).take (two s), s.drop (two s + 6), 0) else ([], [], 4)
theorem head_of (s : List UInt8) (h1 : 3 ≤ s.length) (h2 : (s.getD 0 0).toNat = 1) : s = [1] ++ [UInt8.ofNat (two s / 256), UInt8.ofNat (two s)] ++ s.drop 3 := by
  match s, h1 with
  | a :: b :: c :: s, _ =>
    have ea : a = 1 := UInt8.toNat_inj.1 (by simpa using h2)
    have hb := b.toNat_lt
    have hc := c.toNat_lt
    have e1 : UInt8.ofNat (two (a :: b :: c :: s) / 256) = b := UInt8.toNat_inj.1 (by simp [two]; omega)
    have e2 : UInt8.ofNat (two (a :: b :: c :: s)) = c := UInt8.toNat_inj.1 (by simp [two])
    rw [e1, e2, ea]
    rfl
/-- The front of a frame is what its body's frame has there. -/
theorem front_of (s : List UInt8) (h2 : (s.getD 0 0).toNat = 1) (h3 : two s + 6 ≤ s.length) : s.take (two s + 3) = hd ((s.drop 3).take (two s)) := by
  have hl : ((s.drop 3).take (two s)).length = two s := by simp; omega
  unfold hd
  rw [hl, num2 _ (two_lt s)]
  have e := congrArg (List.take (two s + 3)) (head_of s (by omega) h2)
  rw [e, List.take_append, List.take_of_length_le (by simp)]
  simp
theorem next_ref (s : List UInt8) : refnext s = next s := by
  unfold refnext next
  by_cases h0 : s = []
  · subst h0; rfl
  rw [if_neg h0]
  by_cases h1 : (size s).2 = 3 ∨ ((size s).2 = 0 ∧ (s.length : Int) < (size s).1)
  · rw [if_pos h1, if_pos (by rcases h1 with h | h; exact .inl h; exact .inr (.inr h))]
  · have h1' : ¬ ((size s).2 = 3 ∨ s = [] ∨ ((size s).2 = 0 ∧ (s.length : Int) < (size s).1)) := by
      rintro (h | h | h)
      · exact h1 (.inl h)
      · exact h0 h
      · exact h1 (.inr h)
    rw [if_neg h1, if_neg h1']
    by_cases h2 : (size s).2 ≠ 0
    · rw [if_pos h2, if_pos h2]
    · rw [if_neg h2, if_neg h2]
      have hz : (size s).2 = 0 := Decidable.byContradiction fun e => h2 e
      obtain ⟨_, e1, e2, e3, e4⟩ := size_0 s hz
      have hlen : two s + 6 ≤ s.length := by
        have : ¬ ((s.length : Int) < (size s).1) := fun e => h1 (.inr ⟨hz, e⟩)
        rw [e4] at this
        omega
      have hf := front_of s e1 hlen
      have hlt : (s.take (two s + 6)).length = two s + 6 := by simp; omega
      have e5 : (s.take (two s + 6)).take ((s.take (two s + 6)).length - 3) = hd ((s.drop 3).take (two s)) := by
        rw [hlt, ← hf, List.take_take]
        congr 1
        omega
      have hi := CrcPure.shut_iff (s.take (two s + 6)) (by omega)
      rw [e5] at hi
      have hp : pack ((s.drop 3).take (two s)) = CrcPure.shut (hd ((s.drop 3).take (two s))) := if_neg (by simp; omega)
      rw [hp]
      by_cases hs : CrcPure.sum (s.take (two s + 6)) = 0
      · have ho : CrcPure.open_ (s.take (two s + 6)) = (hd ((s.drop 3).take (two s)), true) := by
          unfold CrcPure.open_
          rw [if_neg (by rw [hlt]; rintro (h | h); omega; exact h hs), e5]
        rw [if_pos (hi.2 hs), ho, if_pos rfl]
        have hn := num2 ((s.drop 3).take (two s)).length (by simp; have := two_lt s; omega)
        unfold hd
        rw [hn]
        rfl
      · have ho : CrcPure.open_ (s.take (two s + 6)) = ([], false) := if_pos (.inr hs)
        rw [if_neg (fun h => hs (hi.1 h)), ho, if_neg (by simp)]
end Frm
end Go.Proofs.Ythiaoeloomljbaa
