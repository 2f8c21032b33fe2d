/-
  Matches: which packets are hit, how two meet: bit by bit.
-/
import Derived.Test.YtlcleiekeapkdaaSxC
namespace Go.Proofs.Ytlcleiekeapkdaa
open Go.Sx
set_option linter.unusedVariables false
namespace Mt
/-- The greatest number of a field. -/
def top (f : Int) : Int := if f = 2 then 15 else if f = 0 ∨ f = 1 ∨ f = 3 then 255 else 0
def bit (n : Int) (i : Nat) : Int := n / 2 ^ i % 2
structure M where
  p : Int
  v0 : Int
  v1 : Int
  v2 : Int
  v3 : Int
  m0 : Int
  m1 : Int
  m2 : Int
  m3 : Int
def M.v (x : M) (f : Nat) : Int := match f with | 0 => x.v0 | 1 => x.v1 | 2 => x.v2 | _ => x.v3
def M.m (x : M) (f : Nat) : Int := match f with | 0 => x.m0 | 1 => x.m1 | 2 => x.m2 | _ => x.m3
def M.av (x : M) : List AV := [.int .i64 x.p, .int .i64 x.v0, .int .i64 x.v1, .int .i64 x.v2, .int .i64 x.v3, .int .i64 x.m0, .int .i64 x.m1, .int .i64 x.m2, .int .i64 x.m3]
def i64 (n : Int) : Prop := -9223372036854775808 ≤ n ∧ n ≤ 9223372036854775807
def M.in64 (x : M) : Prop := i64 x.p ∧ ∀ f, f < 4 → i64 (x.v f) ∧ i64 (x.m f)
/-- May a field be so? -/
def FOk (t v m : Int) : Prop := 0 ≤ m ∧ m ≤ t ∧ 0 ≤ v ∧ v ≤ t ∧ ∀ i, i < 8 → bit v i ≤ bit m i
instance (t v m : Int) : Decidable (FOk t v m) := by unfold FOk; infer_instance
def M.ok (x : M) : Prop := (-1 ≤ x.p ∧ x.p ≤ 7) ∧ ∀ f : Nat, f < 4 → FOk (top f) (x.v f) (x.m f)
instance (x : M) : Decidable x.ok := by unfold M.ok; infer_instance
theorem top_lt (f : Int) : 0 ≤ top f ∧ top f ≤ 255 := by
  unfold top
  split
  · decide
  · split <;> decide

/-! ### Bits -/
theorem zero_iff (x : Nat) : x = 0 ↔ ∀ i, x.testBit i = false := by
  constructor
  · rintro rfl i; simp
  · intro h
    refine Nat.eq_of_testBit_eq fun i => ?_
    rw [h i]; simp
theorem bit_nat (a i : Nat) : bit (a : Int) i = if a.testBit i then 1 else 0 := by
  unfold bit
  rw [Nat.testBit_eq_decide_div_mod_eq]
  have h : ((a : Int) / 2 ^ i % 2) = ((a / 2 ^ i % 2 : Nat) : Int) := by simp
  rw [h]
  have h2 : a / 2 ^ i % 2 < 2 := Nat.mod_lt _ (by decide)
  by_cases h1 : a / 2 ^ i % 2 = 1
  · simp [h1]
  · have : a / 2 ^ i % 2 = 0 := by omega
    simp [this]
theorem bit_le (a b i : Nat) : bit (a : Int) i ≤ bit (b : Int) i ↔ (a.testBit i = true → b.testBit i = true) := by
  rw [bit_nat, bit_nat]
  cases a.testBit i <;> cases b.testBit i <;> simp
theorem lt_of_bits {a n : Nat} (h : ∀ i, n ≤ i → a.testBit i = false) : a < 2 ^ n := Nat.lt_pow_two_of_testBit a fun i hi => h i hi
theorem bit_hi {a n i : Nat} (h : a < 2 ^ n) (hi : n ≤ i) : a.testBit i = false := Nat.testBit_lt_two_pow (Nat.lt_of_lt_of_le h (Nat.pow_le_pow_right (by decide) hi))
theorem sub_iff {a b : Nat} (hb : b < 256) : (a < 256 ∧ ∀ i, i < 8 → (a.testBit i = true → b.testBit i = true)) ↔ ∀ i, a.testBit i = true → b.testBit i = true := by
  constructor
  · rintro ⟨h1, h2⟩ i hi
    rcases Nat.lt_or_ge i 8 with h | h
    · exact h2 i h hi
    · rw [bit_hi (n := 8) h1 h] at hi; cases hi
  · intro h
    refine ⟨lt_of_bits (n := 8) fun i hi => ?_, fun i _ => h i⟩
    cases hx : a.testBit i with
    | false => rfl
    | true =>
      have := h i hx
      rw [bit_hi (n := 8) hb hi] at this
      cases this
theorem le_of_sub {a b : Nat} (h : ∀ i, a.testBit i = true → b.testBit i = true) : a ≤ b := by
  have : a &&& b = a := by
    refine Nat.eq_of_testBit_eq fun i => ?_
    rw [Nat.testBit_and]
    cases hx : a.testBit i with
    | false => rfl
    | true => rw [h i hx]; rfl
  rw [← this]
  exact Nat.and_le_right
theorem wrap_zero (n : Nat) (h : n < 18446744073709551616) : IntKind.i64.wrap (n : Int) = 0 ↔ n = 0 := by
  rw [IntKind.wrap_i64]; omega
theorem andNot_zero (a b : Nat) (ha : a < 9223372036854775808) : bitv .andNot .i64 (a : Int) (b : Int) = 0 ↔ ∀ i, a.testBit i = true → i < 64 → (BitVec.ofNat 64 b).getLsbD i = true := by
  have e1 : BitVec.ofInt IntKind.i64.bits (a : Int) = BitVec.ofNat 64 a := BitVec.ofInt_natCast ..
  have e2 : BitVec.ofInt IntKind.i64.bits (b : Int) = BitVec.ofNat 64 b := BitVec.ofInt_natCast ..
  have e : bitv .andNot .i64 (a : Int) (b : Int) = IntKind.i64.wrap (((BitVec.ofNat 64 a &&& ~~~BitVec.ofNat 64 b : BitVec 64).toNat : Nat) : Int) := by
    unfold bitv
    rw [e1, e2]
    rfl
  rw [e, wrap_zero _ (BitVec.isLt _), zero_iff]
  constructor
  · intro h i hi h64
    have := h i
    rw [BitVec.testBit_toNat] at this
    have ha' : (BitVec.ofNat 64 a).getLsbD i = true := by rw [BitVec.getLsbD_ofNat]; simp [h64, hi]
    rw [BitVec.getLsbD_and, BitVec.getLsbD_not, ha'] at this
    simpa [h64] using this
  · intro h i
    rw [BitVec.testBit_toNat]
    rcases Nat.lt_or_ge i 64 with h64 | h64
    · rw [BitVec.getLsbD_and, BitVec.getLsbD_not, BitVec.getLsbD_ofNat]
      cases hx : a.testBit i with
      | false => simp
      | true => simp [h i hx h64, h64]
    · exact BitVec.getLsbD_of_ge _ _ h64
theorem andNot_iff (a b : Nat) (ha : a < 9223372036854775808) (hb : b < 256) : bitv .andNot .i64 (a : Int) (b : Int) = 0 ↔ ∀ i, a.testBit i = true → b.testBit i = true := by
  rw [andNot_zero a b ha]
  constructor
  · intro h i hi
    rcases Nat.lt_or_ge i 64 with h64 | h64
    · have := h i hi h64
      rw [BitVec.getLsbD_ofNat] at this
      simpa [h64] using this
    · rw [bit_hi (n := 63) ha (by omega)] at hi; cases hi
  · intro h i hi h64
    rw [BitVec.getLsbD_ofNat]
    simp [h64, h i hi]
/-- The program's look at a field. -/
theorem fok_iff (t v m : Int) (ht : 0 ≤ t ∧ t ≤ 255) (hv : v ≤ 9223372036854775807) : FOk t v m ↔ 0 ≤ m ∧ m ≤ t ∧ 0 ≤ v ∧ bitv .andNot .i64 v m = 0 := by
  constructor
  · rintro ⟨h1, h2, h3, h4, h5⟩
    obtain ⟨a, rfl⟩ := Int.eq_ofNat_of_zero_le h3
    obtain ⟨b, rfl⟩ := Int.eq_ofNat_of_zero_le h1
    refine ⟨h1, h2, h3, (andNot_iff a b (by omega) (by omega)).2 ((sub_iff (by omega)).1 ⟨by omega, fun i hi => (bit_le a b i).1 (h5 i hi)⟩)⟩
  · rintro ⟨h1, h2, h3, h4⟩
    obtain ⟨a, rfl⟩ := Int.eq_ofNat_of_zero_le h3
    obtain ⟨b, rfl⟩ := Int.eq_ofNat_of_zero_le h1
    have h5 := (andNot_iff a b (by omega) (by omega)).1 h4
    have h6 := le_of_sub h5
    exact ⟨h1, h2, h3, by omega, fun i _ => (bit_le a b i).2 (h5 i)⟩

/-! ### Matches that may be -/
structure N where
  p : Int
  v0 : Nat
  v1 : Nat
  v2 : Nat
  v3 : Nat
  m0 : Nat
  m1 : Nat
  m2 : Nat
  m3 : Nat
def N.v (x : N) (f : Nat) : Nat := match f with | 0 => x.v0 | 1 => x.v1 | 2 => x.v2 | _ => x.v3
def N.m (x : N) (f : Nat) : Nat := match f with | 0 => x.m0 | 1 => x.m1 | 2 => x.m2 | _ => x.m3
def N.toM (x : N) : M := ⟨x.p, x.v0, x.v1, x.v2, x.v3, x.m0, x.m1, x.m2, x.m3⟩
theorem N.toM_v (x : N) (f : Nat) : x.toM.v f = (x.v f : Int) := by unfold M.v N.v N.toM; split <;> rfl
theorem N.toM_m (x : N) (f : Nat) : x.toM.m f = (x.m f : Int) := by unfold M.m N.m N.toM; split <;> rfl
def Sub (a b : Nat) : Prop := ∀ i, a.testBit i = true → b.testBit i = true
def N.ok (x : N) : Prop := (-1 ≤ x.p ∧ x.p ≤ 7) ∧ ∀ f, f < 4 → (x.m f : Int) ≤ top f ∧ Sub (x.v f) (x.m f)
theorem N.ok_iff (x : N) : x.toM.ok ↔ x.ok := by
  unfold M.ok N.ok
  refine and_congr Iff.rfl (forall_congr' fun f => forall_congr' fun hf => ?_)
  rw [N.toM_v, N.toM_m]
  have ht := top_lt f
  constructor
  · rintro ⟨h1, h2, h3, h4, h5⟩
    exact ⟨h2, (sub_iff (by omega)).1 ⟨by omega, fun i hi => (bit_le _ _ i).1 (h5 i hi)⟩⟩
  · rintro ⟨h1, h2⟩
    have := le_of_sub h2
    exact ⟨by omega, h1, by omega, by omega, fun i _ => (bit_le _ _ i).2 (h2 i)⟩
theorem M.toN {x : M} (h : x.ok) : ∃ y : N, x = y.toM := by
  obtain ⟨p, v0, v1, v2, v3, m0, m1, m2, m3⟩ := x
  obtain ⟨a0, _, b0, _⟩ := h.2 0 (by decide)
  obtain ⟨a1, _, b1, _⟩ := h.2 1 (by decide)
  obtain ⟨a2, _, b2, _⟩ := h.2 2 (by decide)
  obtain ⟨a3, _, b3, _⟩ := h.2 3 (by decide)
  simp only [M.v, M.m] at *
  obtain ⟨v0, rfl⟩ := Int.eq_ofNat_of_zero_le b0
  obtain ⟨v1, rfl⟩ := Int.eq_ofNat_of_zero_le b1
  obtain ⟨v2, rfl⟩ := Int.eq_ofNat_of_zero_le b2
  obtain ⟨v3, rfl⟩ := Int.eq_ofNat_of_zero_le b3
  obtain ⟨m0, rfl⟩ := Int.eq_ofNat_of_zero_le a0
  obtain ⟨m1, rfl⟩ := Int.eq_ofNat_of_zero_le a1
  obtain ⟨m2, rfl⟩ := Int.eq_ofNat_of_zero_le a2
  obtain ⟨m3, rfl⟩ := Int.eq_ofNat_of_zero_le a3
  exact ⟨⟨p, v0, v1, v2, v3, m0, m1, m2, m3⟩, rfl⟩
/-- Numbers of one byte. -/
def N.lt (x : N) : Prop := ∀ f, f < 4 → x.v f < 256 ∧ x.m f < 256
theorem N.ok.lt {x : N} (h : x.ok) : x.lt := fun f hf => by
  obtain ⟨h1, h2⟩ := h.2 f hf
  have := top_lt f
  have := le_of_sub h2
  omega
/-- Is a field of a packet hit? -/
def hit1 (p v m : Nat) : Prop := (p ^^^ v) &&& m = 0
instance (p v m : Nat) : Decidable (hit1 p v m) := by unfold hit1; infer_instance
def hits (x : N) (port : Int) (k : Nat → Nat) : Prop := (x.p = -1 ∨ x.p = port) ∧ ∀ f, f < 4 → hit1 (k f) (x.v f) (x.m f)
instance (x : N) (port : Int) (k : Nat → Nat) : Decidable (hits x port k) := by unfold hits; infer_instance
def alike (a va b vb : Nat) : Prop := (a ^^^ b) &&& va &&& vb = 0
instance (a va b vb : Nat) : Decidable (alike a va b vb) := by unfold alike; infer_instance
/-- Do both hit something? -/
def meets (a b : N) : Prop := (a.p = b.p ∨ a.p = -1 ∨ b.p = -1) ∧ ∀ f, f < 4 → alike (a.v f) (a.m f) (b.v f) (b.m f)
instance (a b : N) : Decidable (meets a b) := by unfold meets; infer_instance
def meet (a b : N) : N := ⟨max a.p b.p, a.v0 ||| b.v0, a.v1 ||| b.v1, a.v2 ||| b.v2, a.v3 ||| b.v3, a.m0 ||| b.m0, a.m1 ||| b.m1, a.m2 ||| b.m2, a.m3 ||| b.m3⟩
theorem meet_v (a b : N) (f : Nat) : (meet a b).v f = a.v f ||| b.v f := by unfold N.v meet; split <;> rfl
theorem meet_m (a b : N) (f : Nat) : (meet a b).m f = a.m f ||| b.m f := by unfold N.m meet; split <;> rfl
theorem hit1_iff (p v m : Nat) : hit1 p v m ↔ ∀ i, m.testBit i = true → p.testBit i = v.testBit i := by
  unfold hit1
  rw [zero_iff]
  refine forall_congr' fun i => ?_
  rw [Nat.testBit_and, Nat.testBit_xor]
  cases p.testBit i <;> cases v.testBit i <;> cases m.testBit i <;> simp
theorem alike_iff (a ma b mb : Nat) : alike a ma b mb ↔ ∀ i, ma.testBit i = true → mb.testBit i = true → a.testBit i = b.testBit i := by
  unfold alike
  rw [zero_iff]
  refine forall_congr' fun i => ?_
  rw [Nat.testBit_and, Nat.testBit_and, Nat.testBit_xor]
  cases a.testBit i <;> cases b.testBit i <;> cases ma.testBit i <;> cases mb.testBit i <;> simp
/-- WHO IS HIT BY BOTH, field by field. -/
theorem both1 {p a ma b mb : Nat} (ha : Sub a ma) (hb : Sub b mb) : (hit1 p a ma ∧ hit1 p b mb) ↔ (alike a ma b mb ∧ hit1 p (a ||| b) (ma ||| mb)) := by
  rw [hit1_iff, hit1_iff, hit1_iff, alike_iff]
  constructor
  · rintro ⟨h1, h2⟩
    refine ⟨fun i x y => (h1 i x).symm.trans (h2 i y), fun i h => ?_⟩
    have a1 := ha i
    have a2 := hb i
    have a3 := h1 i
    have a4 := h2 i
    rw [Nat.testBit_or] at h ⊢
    revert h a1 a2 a3 a4
    cases p.testBit i <;> cases a.testBit i <;> cases b.testBit i <;> cases ma.testBit i <;> cases mb.testBit i <;> simp
  · rintro ⟨h1, h2⟩
    refine ⟨fun i h => ?_, fun i h => ?_⟩
    all_goals
      have a1 := ha i
      have a2 := hb i
      have a3 := h1 i
      have a4 := h2 i
      rw [Nat.testBit_or, Nat.testBit_or] at a4
      revert h a1 a2 a3 a4
      cases p.testBit i <;> cases a.testBit i <;> cases b.testBit i <;> cases ma.testBit i <;> cases mb.testBit i <;> simp
theorem both (a b : N) (ha : a.ok) (hb : b.ok) (port : Int) (k : Nat → Nat) : (hits a port k ∧ hits b port k) ↔ (meets a b ∧ hits (meet a b) port k) := by
  unfold hits meets
  constructor
  · rintro ⟨⟨h1, h2⟩, h3, h4⟩
    refine ⟨⟨by omega, fun f hf => ?_⟩, ?_, fun f hf => ?_⟩
    · exact ((both1 (ha.2 f hf).2 (hb.2 f hf).2).1 ⟨h2 f hf, h4 f hf⟩).1
    · have e : (meet a b).p = max a.p b.p := rfl
      have := ha.1
      have := hb.1
      rw [e]; omega
    · rw [meet_v, meet_m]
      exact ((both1 (ha.2 f hf).2 (hb.2 f hf).2).1 ⟨h2 f hf, h4 f hf⟩).2
  · rintro ⟨⟨h1, h2⟩, h3, h4⟩
    have e : (meet a b).p = max a.p b.p := rfl
    have hpa := ha.1
    have hpb := hb.1
    rw [e] at h3
    have key : ∀ f, f < 4 → hit1 (k f) (a.v f) (a.m f) ∧ hit1 (k f) (b.v f) (b.m f) := fun f hf => by
      have := h4 f hf
      rw [meet_v, meet_m] at this
      exact (both1 (ha.2 f hf).2 (hb.2 f hf).2).2 ⟨h2 f hf, this⟩
    exact ⟨⟨by omega, fun f hf => (key f hf).1⟩, by omega, fun f hf => (key f hf).2⟩
/-- Within: what both hit is just what the first one hits. -/
def within (a b : N) : Prop := meets a b ∧ meet a b = a
end Mt
end Go.Proofs.Ytlcleiekeapkdaa

