/-
  Matches: the document's hits, within and meet, bit by bit.
-/
import Derived.Test.YtokpkddeijfjjaaDoorMt4
namespace Go.Proofs.YtokpkddeijfjjaaDoor
open Go.Sx
set_option maxRecDepth 20000
set_option linter.unusedVariables false
namespace Mt
def bt (n i : Nat) : Nat := n / 2 ^ i % 2
theorem bt_lt (n i : Nat) : bt n i < 2 := Nat.mod_lt _ (by decide)
theorem bt_bit (n i : Nat) : bit (n : Int) i = (bt n i : Int) := by unfold bit bt; simp
theorem bt_tb (n i : Nat) : n.testBit i = decide (bt n i = 1) := by unfold bt; exact Nat.testBit_eq_decide_div_mod_eq
theorem tb_hi {a i : Nat} (h : a < 256) (hi : 8 ≤ i) : a.testBit i = false := bit_hi (n := 8) h hi
theorem hit1_bt (p v m : Nat) (hm : m < 256) : hit1 p v m ↔ ∀ i, i < 8 → bt m i = 1 → bt v i = bt p i := by
  rw [hit1_iff]
  constructor
  · intro h i _ h1
    have := h i (by rw [bt_tb, h1]; rfl)
    rw [bt_tb, bt_tb] at this
    have h2 := bt_lt p i
    have h3 := bt_lt v i
    simp only [decide_eq_decide] at this
    omega
  · intro h i hi
    rcases Nat.lt_or_ge i 8 with h8 | h8
    · rw [bt_tb] at hi
      rw [bt_tb, bt_tb, h i h8 (of_decide_eq_true hi)]
    · rw [tb_hi hm h8] at hi; cases hi
theorem alike_bt (a ma b mb : Nat) (hm : ma < 256) : alike a ma b mb ↔ ∀ i, i < 8 → bt mb i = 1 → bt ma i = 1 → bt a i = bt b i := by
  rw [alike_iff]
  constructor
  · intro h i _ h1 h2
    have := h i (by rw [bt_tb, h2]; rfl) (by rw [bt_tb, h1]; rfl)
    rw [bt_tb, bt_tb] at this
    have h3 := bt_lt a i
    have h4 := bt_lt b i
    simp only [decide_eq_decide] at this
    omega
  · intro h i hi hj
    rcases Nat.lt_or_ge i 8 with h8 | h8
    · rw [bt_tb] at hi hj
      rw [bt_tb, bt_tb, h i h8 (of_decide_eq_true hj) (of_decide_eq_true hi)]
    · rw [tb_hi hm h8] at hi; cases hi
theorem or_eq_left (a b : Nat) : a ||| b = a ↔ Sub b a := by
  constructor
  · intro h i hi
    rw [← h, Nat.testBit_or, hi, Bool.or_true]
  · intro h
    refine Nat.eq_of_testBit_eq fun i => ?_
    rw [Nat.testBit_or]
    have := h i
    cases hx : b.testBit i with
    | false => simp
    | true => simp [this hx]
theorem sub_bt (a b : Nat) (ha : a < 256) : Sub a b ↔ ∀ i, i < 8 → bt a i = 1 → bt b i = 1 := by
  constructor
  · intro h i _ h1
    have := h i (by rw [bt_tb, h1]; rfl)
    rw [bt_tb] at this
    exact of_decide_eq_true this
  · intro h i hi
    rcases Nat.lt_or_ge i 8 with h8 | h8
    · rw [bt_tb] at hi ⊢
      rw [h i h8 (of_decide_eq_true hi)]; rfl
    · rw [tb_hi ha h8] at hi; cases hi
/-- Within, bit by bit. -/
def in1 (va ma vb mb i : Nat) : Prop := bt mb i = 1 → bt ma i = 1 ∧ bt va i = bt vb i
theorem within_bt (a b : N) (ha : a.ok) (hb : b.ok) : within a b ↔ (b.p = -1 ∨ a.p = b.p) ∧ ∀ f, f < 4 → ∀ i, i < 8 → in1 (a.v f) (a.m f) (b.v f) (b.m f) i := by
  have hpa := ha.1
  have hpb := hb.1
  have e : meet a b = a ↔ (max a.p b.p = a.p) ∧ ∀ f, f < 4 → a.v f ||| b.v f = a.v f ∧ a.m f ||| b.m f = a.m f := by
    constructor
    · intro h
      refine ⟨congrArg N.p h, fun f _ => ⟨?_, ?_⟩⟩
      · rw [← meet_v, h]
      · rw [← meet_m, h]
    · rintro ⟨h1, h2⟩
      obtain ⟨p, v0, v1, v2, v3, m0, m1, m2, m3⟩ := a
      obtain ⟨k0, j0⟩ := h2 0 (by decide)
      obtain ⟨k1, j1⟩ := h2 1 (by decide)
      obtain ⟨k2, j2⟩ := h2 2 (by decide)
      obtain ⟨k3, j3⟩ := h2 3 (by decide)
      simp only [N.v, N.m] at k0 k1 k2 k3 j0 j1 j2 j3
      simp only [meet, h1, k0, k1, k2, k3, j0, j1, j2, j3]
  unfold within meets
  rw [e]
  constructor
  · rintro ⟨⟨h1, h2⟩, h3, h4⟩
    refine ⟨by omega, fun f hf i hi hm => ?_⟩
    obtain ⟨h5, h6⟩ := h4 f hf
    have lb := hb.lt f hf
    have la := ha.lt f hf
    have h7 := (sub_bt _ _ lb.2).1 ((or_eq_left _ _).1 h6) i hi hm
    exact ⟨h7, (alike_bt _ _ _ _ la.2).1 (h2 f hf) i hi hm h7⟩
  · rintro ⟨h1, h2⟩
    refine ⟨⟨by omega, fun f hf => ?_⟩, by omega, fun f hf => ⟨?_, ?_⟩⟩
    · exact (alike_bt _ _ _ _ (ha.lt f hf).2).2 fun i hi hb _ => (h2 f hf i hi hb).2
    · refine (or_eq_left _ _).2 ((sub_bt _ _ (hb.lt f hf).1).2 fun i hi hv => ?_)
      have := (sub_bt _ _ (hb.lt f hf).1).1 (hb.2 f hf).2 i hi hv
      rw [(h2 f hf i hi this).2, hv]
    · exact (or_eq_left _ _).2 ((sub_bt _ _ (hb.lt f hf).2).2 fun i hi hm => (h2 f hf i hi hm).1)
/-! ### Bits laid in, one by one -/
theorem add_or : ∀ x, x < 256 → ∀ i, i < 8 → bt x i = 0 → x + 2 ^ i = x ||| 2 ^ i := by decide +kernel
theorem or_same : ∀ x, x < 256 → ∀ i, i < 8 → bt x i = 1 → x ||| 2 ^ i = x := by decide +kernel
theorem mod_step : ∀ x, x < 256 → ∀ i, i < 8 → x % 2 ^ (i + 1) = x % 2 ^ i ||| (if bt x i = 1 then 2 ^ i else 0) := by decide +kernel
theorem or_step (a b i : Nat) (ha : a < 256) (hb : b < 256) (hi : i < 8) : a ||| b % 2 ^ (i + 1) = if bt b i = 1 ∧ bt a i = 0 then (a ||| b % 2 ^ i) + 2 ^ i else a ||| b % 2 ^ i := by
  rw [mod_step b hb i hi]
  have h2 := bt_lt a i
  have hl : a ||| b % 2 ^ i < 256 := Nat.or_lt_two_pow (n := 8) ha (Nat.lt_of_le_of_lt (Nat.mod_le _ _) hb)
  by_cases h1 : bt b i = 1
  · rw [if_pos h1]
    by_cases h0 : bt a i = 0
    · rw [if_pos ⟨h1, h0⟩, ← Nat.or_assoc]
      refine (add_or _ hl i hi ?_).symm
      have h3 : (a ||| b % 2 ^ i).testBit i = false := by
        rw [Nat.testBit_or, Nat.testBit_mod_two_pow, bt_tb, h0]
        simp
      rw [bt_tb] at h3
      have := bt_lt (a ||| b % 2 ^ i) i
      have := of_decide_eq_false h3
      omega
    · rw [if_neg (fun h => h0 h.2), ← Nat.or_assoc, Nat.or_assoc, Nat.or_comm (b % 2 ^ i), ← Nat.or_assoc, or_same a ha i hi (by omega)]
  · rw [if_neg h1, if_neg (fun h => h1 h.1), Nat.or_zero]
end Mt
theorem bt_c (n i : Nat) (hn : n < 256) (hi : i ≤ 8) : NCall Tryd.prog 114 [.int .i64 n, .int .i64 i] [] fun r _ => r = .int .i64 (Mt.bt n i : Nat) :=
  (bit_c n i (by omega) hi).mono fun r _ h => by rw [h, Mt.bt_bit]
end Go.Proofs.YtokpkddeijfjjaaDoor
