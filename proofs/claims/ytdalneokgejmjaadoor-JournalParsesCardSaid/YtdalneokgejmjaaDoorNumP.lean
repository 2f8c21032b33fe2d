/-
  Numerals: what is told of a number is read as it was. Fields between blanks. Plain laws.
-/
import Derived.Test.YtdalneokgejmjaaDoorSxC
import Derived.Lib.ItoaMem
import Derived.Lib.ItoaLen
import Derived.Lib.AtoiAll
import Derived.Lib.TrimAscii
import Derived.Lib.Fields
namespace Go.Proofs.YtdalneokgejmjaaDoor
open Go.Sx
set_option linter.unusedVariables false
namespace Num
def digs (d : List UInt8) : Prop := ∀ b ∈ d, 48 ≤ b.toNat ∧ b.toNat ≤ 57
theorem digs_app {a b : List UInt8} (ha : digs a) (hb : digs b) : digs (a ++ b) := fun x hx => by
  rcases List.mem_append.1 hx with h | h
  · exact ha x h
  · exact hb x h
theorem digit (n : Nat) (h : n < 10) : (UInt8.ofNat (48 + n)).toNat = 48 + n := by simp; omega
theorem digit_digs (n : Nat) (h : n < 10) : digs [UInt8.ofNat (48 + n)] := fun b hb => by
  rw [List.mem_singleton.1 hb, digit n h]; omega
theorem dec_digs (u : Nat) : digs (Lib.decDigits u) := by
  induction u using Nat.strongRecOn with
  | ind u ih =>
    rw [Lib.decDigits]
    split
    · exact digit_digs u ‹_›
    · exact digs_app (ih (u / 10) (by omega)) (digit_digs _ (by omega))
theorem dec_ne (u : Nat) : Lib.decDigits u ≠ [] := by
  rw [Lib.decDigits]
  split <;> simp
def add (n : Nat) (b : UInt8) : Nat := 10 * n + b.toNat - 48
def val (d : List UInt8) : Nat := d.foldl add 0
theorem val_snoc (d : List UInt8) (b : UInt8) : val (d ++ [b]) = 10 * val d + b.toNat - 48 := by simp [val, add]
theorem dec_val (u : Nat) : val (Lib.decDigits u) = u := by
  induction u using Nat.strongRecOn with
  | ind u ih =>
    rw [Lib.decDigits]
    split
    · rename_i h
      have := digit u h
      rw [show val [UInt8.ofNat (48 + u)] = 10 * 0 + (UInt8.ofNat (48 + u)).toNat - 48 from rfl, this]
      omega
    · rename_i h
      rw [val_snoc, ih (u / 10) (by omega), digit (u % 10) (by omega)]
      omega
theorem dec_len (u k : Nat) (h : u < 10 ^ (k + 1)) : (Lib.decDigits u).length ≤ k + 1 := by
  induction k generalizing u with
  | zero =>
    rw [Lib.decDigits, dif_pos (by omega)]
    simp
  | succ k ih =>
    rw [Lib.decDigits]
    split
    · simp
    · have := ih (u / 10) (by rw [Nat.pow_succ] at h; omega)
      rw [List.length_append]
      simp only [List.length_cons, List.length_nil]
      omega
/-- What a text tells as a number, whatever it is. -/
def atv (s : List UInt8) : Int :=
  match Lib.atoiAll s with
  | .ok v => v
  | .range => Lib.atoiSat s
  | _ => 0
theorem uint_snoc : ∀ (l : List UInt8) (acc v : Nat) (c : UInt8), Lib.parseUint10 acc l = .ok v → (48 ≤ c.toNat ∧ c.toNat ≤ 57) → v * 10 + (c.toNat - 48) < 9223372036854775808 →
    Lib.parseUint10 acc (l ++ [c]) = .ok (v * 10 + (c.toNat - 48))
  | [], acc, v, c, h, hc, hv => by
    rw [Lib.parseUint10] at h
    injection h with h
    subst h
    rw [List.nil_append, Lib.parseUint10, if_pos hc, if_neg (by omega), if_neg (by omega), Lib.parseUint10]
  | b :: l, acc, v, c, h, hc, hv => by
    rw [Lib.parseUint10] at h
    rw [List.cons_append, Lib.parseUint10]
    split at h
    · rename_i h1
      rw [if_pos h1]
      split at h
      · cases h
      · rename_i h2
        rw [if_neg h2]
        split at h
        · cases h
        · rename_i h3
          rw [if_neg h3]
          exact uint_snoc l _ v c h hc hv
    · cases h
theorem uint_dec (u : Nat) (h : u < 9223372036854775808) : Lib.parseUint10 0 (Lib.decDigits u) = .ok u := by
  induction u using Nat.strongRecOn with
  | ind u ih =>
    rw [Lib.decDigits]
    split
    · rename_i h1
      have hd := digit u h1
      rw [Lib.parseUint10, if_pos (by omega), if_neg (by omega), if_neg (by omega), Lib.parseUint10, hd]
      congr 1; omega
    · rename_i h1
      have hd := digit (u % 10) (by omega)
      rw [uint_snoc _ _ (u / 10) _ (ih _ (by omega) (by omega)) (by omega) (by omega), hd]
      congr 1; omega
theorem itoa_dec {n : Int} (h : 0 ≤ n) : ∃ u : Nat, n = u ∧ Lib.itoa n = Lib.decDigits u := by
  obtain ⟨u, rfl⟩ := Int.eq_ofNat_of_zero_le h
  exact ⟨u, rfl, Lib.itoa_nonneg u⟩
theorem atv_itoa {n : Int} (h0 : 0 ≤ n) (h : n < 9223372036854775808) : atv (Lib.itoa n) = n := by
  obtain ⟨u, rfl, e⟩ := itoa_dec h0
  have hd := dec_digs u
  have hu := uint_dec u (by omega)
  rw [e]
  unfold atv
  have : Lib.atoiAll (Lib.decDigits u) = .ok (u : Int) := by
    cases hl : Lib.decDigits u with
    | nil => exact (dec_ne u hl).elim
    | cons c r =>
      have hc := hd c (by rw [hl]; simp)
      rw [hl] at hu
      unfold Lib.atoiAll
      dsimp only
      rw [if_neg (by omega)]
      unfold Lib.parseMag
      rw [if_neg (by simp), hu]
      dsimp only
      rw [if_neg (by omega), if_neg (by omega), if_neg (by omega)]
  rw [this]
theorem itoa_digs {n : Int} (h : 0 ≤ n) : digs (Lib.itoa n) ∧ Lib.itoa n ≠ [] ∧ (val (Lib.itoa n) : Int) = n := by
  obtain ⟨u, rfl, e⟩ := itoa_dec h
  rw [e, dec_val]
  exact ⟨dec_digs u, dec_ne u, rfl⟩
theorem itoa_len {n : Int} (h : 0 ≤ n) (k : Nat) (hn : n < 10 ^ (k + 1)) : (Lib.itoa n).length ≤ k + 1 := by
  obtain ⟨u, rfl, e⟩ := itoa_dec h
  rw [e]
  exact dec_len u k (by exact_mod_cast hn)
/-! ### Numbers at a place -/
/-- Up to k digits from a place on: the number, and where it ends. -/
def go (s : List UInt8) : Nat → Nat → Nat → Nat × Nat
  | 0, i, n => (n, i)
  | k + 1, i, n => match s[i]? with
    | some b => if 48 ≤ b.toNat ∧ b.toNat ≤ 57 then go s k (i + 1) (add n b) else (n, i)
    | none => (n, i)
theorem go_digs : ∀ (d pre post : List UInt8), digs d → (∀ c, post.head? = some c → ¬ (48 ≤ c.toNat ∧ c.toNat ≤ 57)) → ∀ (k n : Nat), d.length ≤ k →
    go (pre ++ d ++ post) k pre.length n = (d.foldl add n, pre.length + d.length)
  | [], pre, post, _, hp, k, n, _ => by
    cases k with
    | zero => simp [go]
    | succ k =>
      unfold go
      cases post with
      | nil => simp
      | cons c post =>
        have := hp c rfl
        simp [this]
  | b :: d, pre, post, hd, hp, k, n, hk => by
    cases k with
    | zero => simp at hk
    | succ k =>
      have hat : (pre ++ b :: d ++ post)[pre.length]? = some b := by simp
      unfold go
      rw [hat]
      dsimp only
      rw [if_pos (hd b (by simp))]
      have ih := go_digs d (pre ++ [b]) post (fun x hx => hd x (by simp [hx])) hp k (add n b) (by simpa using hk)
      have e : pre ++ [b] ++ d ++ post = pre ++ b :: d ++ post := by simp
      rw [e] at ih
      rw [show pre.length + 1 = (pre ++ [b]).length by simp, ih]
      simp only [List.foldl_cons, List.length_append, List.length_cons, List.length_nil]
      congr 1
      omega
/-! ### Fields between blanks -/
/-- Bytes of a field. -/
def solid (d : List UInt8) : Prop := ∀ b ∈ d, b.toNat < 128 ∧ Lib.isSp b = false
theorem digs_solid {d : List UInt8} (h : digs d) : solid d := fun b hb => by
  have := h b hb
  refine ⟨by omega, ?_⟩
  cases hs : Lib.isSp b with
  | false => rfl
  | true =>
    exfalso
    unfold Lib.isSp at hs
    simp only [Bool.or_eq_true, beq_iff_eq] at hs
    rcases hs with ((((rfl | rfl) | rfl) | rfl) | rfl) | rfl <;> exact absurd this (by decide)
theorem fields_go : ∀ (d cur R : List UInt8) (c : UInt8), solid d → Lib.isSp c = true → cur ++ d ≠ [] → Lib.fieldsGo cur (d ++ c :: R) = (cur ++ d) :: Lib.fieldsGo [] R
  | [], cur, R, c, _, hc, hne => by
    rw [List.nil_append, Lib.fieldsGo, if_pos hc, List.append_nil, if_neg]
    cases cur with
    | nil => simp at hne
    | cons => simp
  | b :: d, cur, R, c, hd, hc, hne => by
    rw [List.cons_append, Lib.fieldsGo, (hd b (by simp)).2, if_neg (by simp), fields_go d (cur ++ [b]) R c (fun x hx => hd x (by simp [hx])) hc (by simp)]
    simp
theorem fields_one {d : List UInt8} (hd : solid d) (hne : d ≠ []) {c : UInt8} (hc : Lib.isSp c = true) (R : List UInt8) : Lib.fields (d ++ c :: R) = d :: Lib.fields R := by
  have := fields_go d [] R c hd hc (by simpa using hne)
  simpa [Lib.fields] using this
theorem fields_nil : Lib.fields [] = [] := rfl
end Num
end Go.Proofs.YtdalneokgejmjaaDoor
