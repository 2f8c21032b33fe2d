/-
  The plain law of the 24-bit sum: the step by bits, the step by half bytes, and that both are one.
-/
namespace Go.Proofs.Ythiaoeloomljbaa.CrcPure

/-- One step of the register, no bit coming in. -/
def L (c : Nat) : Nat := (2 * c % 16777216) ^^^ (if 8388608 ≤ c then 0x864CFB else 0)

/-- One step by the reference: a bit comes in. -/
def bitStep (c b : Nat) : Nat := if c / 8388608 = b then c * 2 % 16777216 else (c * 2 % 16777216) ^^^ 0x864CFB

def Ln : Nat → Nat → Nat
  | 0, c => c
  | n + 1, c => Ln n (L c)

theorem xor_lt {a b : Nat} (ha : a < 16777216) (hb : b < 16777216) : a ^^^ b < 16777216 := Nat.xor_lt_two_pow (n := 24) ha hb

theorem L_lt (c : Nat) : L c < 16777216 := by
  unfold L
  refine xor_lt (Nat.mod_lt _ (by decide)) ?_
  split <;> decide

theorem ge_testBit {c : Nat} (h : c < 16777216) : (8388608 ≤ c) = (c.testBit 23 = true) := by
  rw [Nat.testBit_eq_decide_div_mod_eq]
  simp only [decide_eq_true_eq, eq_iff_iff]
  have : (2 : Nat) ^ 23 = 8388608 := by decide
  rw [this]; omega

theorem shl_xor (a b k n : Nat) : ((a ^^^ b) <<< k) % 2 ^ n = (a <<< k) % 2 ^ n ^^^ (b <<< k) % 2 ^ n := by
  apply Nat.eq_of_testBit_eq
  intro i
  simp only [Nat.testBit_xor, Nat.testBit_mod_two_pow, Nat.testBit_shiftLeft]
  by_cases hi : i < n <;> by_cases h1 : k ≤ i <;> simp [hi, h1]

theorem L_xor {a b : Nat} (ha : a < 16777216) (hb : b < 16777216) : L (a ^^^ b) = L a ^^^ L b := by
  have hab := xor_lt ha hb
  unfold L
  simp only [ge_testBit ha, ge_testBit hb, ge_testBit hab, Nat.testBit_xor]
  have h2 : 2 * (a ^^^ b) % 16777216 = (2 * a % 16777216) ^^^ (2 * b % 16777216) := by
    have := shl_xor a b 1 24
    simpa [Nat.shiftLeft_eq, Nat.mul_comm] using this
  rw [h2]
  generalize (2 * a % 16777216) = x
  generalize (2 * b % 16777216) = y
  have hs (z : Nat) : 8801531 ^^^ (8801531 ^^^ z) = z := by rw [← Nat.xor_assoc, Nat.xor_self, Nat.zero_xor]
  cases a.testBit 23 <;> cases b.testBit 23 <;> simp
  · ac_rfl
  · ac_rfl
  · calc x ^^^ y = 8801531 ^^^ (8801531 ^^^ (x ^^^ y)) := (hs _).symm
      _ = _ := by ac_rfl

theorem add_xor {a b k : Nat} (h : b < 2 ^ k) : a * 2 ^ k + b = (a * 2 ^ k) ^^^ b := by
  rw [Nat.mul_comm, Nat.two_pow_add_eq_or_of_lt h]
  apply Nat.eq_of_testBit_eq
  intro i
  rw [Nat.testBit_or, Nat.testBit_xor, Nat.testBit_two_pow_mul]
  by_cases hi : k ≤ i
  · rw [Nat.testBit_lt_two_pow (Nat.lt_of_lt_of_le h (Nat.pow_le_pow_right (by decide) hi))]; simp
  · simp [hi]

theorem L_zero : L 0 = 0 := by decide
theorem Ln_lt {n c : Nat} (h : c < 16777216) : Ln n c < 16777216 := by
  induction n generalizing c with
  | zero => exact h
  | succ n ih => exact ih (L_lt c)
theorem Ln_xor {n a b : Nat} (ha : a < 16777216) (hb : b < 16777216) : Ln n (a ^^^ b) = Ln n a ^^^ Ln n b := by
  induction n generalizing a b with
  | zero => rfl
  | succ n ih => simp only [Ln, L_xor ha hb]; exact ih (L_lt _) (L_lt _)
theorem Ln_add (n m c : Nat) : Ln (n + m) c = Ln m (Ln n c) := by
  induction n generalizing c with
  | zero => simp [Ln]
  | succ n ih => rw [Nat.add_right_comm]; exact ih (L c)
/-- A step that loses no bit is a shift. -/
theorem L_small {c : Nat} (h : c < 8388608) : L c = 2 * c := by
  unfold L; rw [if_neg (by omega), Nat.xor_zero, Nat.mod_eq_of_lt (by omega)]
theorem Ln_small (n : Nat) {c : Nat} (h : c * 2 ^ n < 16777216) : Ln n c = c * 2 ^ n := by
  induction n generalizing c with
  | zero => simp [Ln]
  | succ n ih =>
    have hp : 0 < 2 ^ n := Nat.pow_pos (by decide)
    have e : c * 2 ^ (n + 1) = (2 * c) * 2 ^ n := by rw [Nat.pow_succ]; ac_rfl
    rw [e] at h ⊢
    have h1 : 2 * c ≤ (2 * c) * 2 ^ n := Nat.le_mul_of_pos_right _ hp
    simp only [Ln]
    rw [L_small (by omega)]
    exact ih h
/-- A register that is not empty stays so. -/
theorem L_eq_zero {c : Nat} (h : c < 16777216) (h0 : L c = 0) : c = 0 := by
  by_cases hc : 8388608 ≤ c
  · exfalso
    have : (L c).testBit 0 = true := by
      unfold L
      rw [if_pos hc, Nat.testBit_xor]
      have : (2 * c % 16777216).testBit 0 = false := by
        rw [Nat.testBit_zero]; simp
      rw [this]; decide
    rw [h0] at this; simp at this
  · rw [L_small (by omega)] at h0; omega
theorem Ln_eq_zero {n c : Nat} (h : c < 16777216) (h0 : Ln n c = 0) : c = 0 := by
  induction n generalizing c with
  | zero => exact h0
  | succ n ih => exact L_eq_zero h (ih (L_lt c) h0)

/-- The reference's step is the register's step with the bit put in at the top. -/
theorem bitStep_eq {c b : Nat} (hc : c < 16777216) (hb : b < 2) : bitStep c b = L (c ^^^ (b * 8388608)) := by
  have hb2 : b * 8388608 < 16777216 := by omega
  rw [L_xor hc hb2]
  unfold bitStep L
  have h8 : c / 8388608 = if 8388608 ≤ c then 1 else 0 := by split <;> omega
  rw [h8, Nat.mul_comm c 2]
  generalize 2 * c % 16777216 = x
  obtain rfl | rfl : b = 0 ∨ b = 1 := by omega
  · by_cases h : 8388608 ≤ c <;> simp [h]
  · by_cases h : 8388608 ≤ c <;> simp [h]
    rw [Nat.xor_assoc, Nat.xor_self, Nat.xor_zero]

/-- The reference's step by a byte: its bits, the highest one first. -/
def byteB (c x : Nat) : Nat :=
  bitStep (bitStep (bitStep (bitStep (bitStep (bitStep (bitStep (bitStep c (x / 128 % 2)) (x / 64 % 2)) (x / 32 % 2)) (x / 16 % 2)) (x / 8 % 2)) (x / 4 % 2)) (x / 2 % 2)) (x % 2)

/-- The register's step by a byte. -/
def byteL (c x : Nat) : Nat := Ln 8 (c ^^^ (x * 65536))

/-- The bits of a byte still to come, the next one at the top. -/
theorem feed (c y : Nat) (n : Nat) (hc : c < 16777216) (hy : y < 2 ^ (n + 1)) (hn : n ≤ 7) :
    L (c ^^^ (y * 2 ^ (23 - n))) = L (c ^^^ (y / 2 ^ n % 2 * 8388608)) ^^^ (y % 2 ^ n * 2 ^ (24 - n)) := by
  have hp : 0 < 2 ^ n := Nat.pow_pos (by decide)
  have e : 2 ^ (23 - n) * 2 ^ n = 8388608 := by rw [← Nat.pow_add, Nat.sub_add_cancel (by omega)]
  have e2 : 2 * 2 ^ (23 - n) = 2 ^ (24 - n) := by rw [← Nat.pow_succ']; congr 1; omega
  have hq : y / 2 ^ n < 2 := Nat.div_lt_of_lt_mul (by rw [Nat.pow_succ] at hy; omega)
  have hr : y % 2 ^ n * 2 ^ (23 - n) < 8388608 := by
    rw [← e, Nat.mul_comm (2 ^ (23 - n))]
    exact Nat.mul_lt_mul_of_pos_right (Nat.mod_lt _ hp) (Nat.pow_pos (by decide))
  have hsum : y * 2 ^ (23 - n) = (y / 2 ^ n % 2 * 8388608) ^^^ (y % 2 ^ n * 2 ^ (23 - n)) := by
    have h23 : (8388608 : Nat) = 2 ^ 23 := by decide
    rw [Nat.mod_eq_of_lt hq, h23, ← add_xor (by rw [← h23]; exact hr), ← h23, ← e]
    have hd := Nat.div_add_mod y (2 ^ n)
    calc y * 2 ^ (23 - n) = (2 ^ n * (y / 2 ^ n) + y % 2 ^ n) * 2 ^ (23 - n) := by rw [hd]
      _ = _ := by rw [Nat.add_mul]; congr 1; ac_rfl
  have h1 : y / 2 ^ n % 2 * 8388608 < 16777216 := by omega
  rw [hsum, ← Nat.xor_assoc, L_xor (xor_lt hc h1) (by omega), L_small hr, Nat.mul_left_comm, e2]


theorem bitStep_lt (c b : Nat) : bitStep c b < 16777216 := by
  unfold bitStep; split
  · exact Nat.mod_lt _ (by decide)
  · exact xor_lt (Nat.mod_lt _ (by decide)) (by decide)

theorem feed' (c x n : Nat) (hc : c < 16777216) (hn : n ≤ 7) :
    L (c ^^^ (x % 2 ^ (n + 1) * 2 ^ (23 - n))) = bitStep c (x / 2 ^ n % 2) ^^^ (x % 2 ^ n * 2 ^ (24 - n)) := by
  have hp : 0 < 2 ^ n := Nat.pow_pos (by decide)
  rw [feed c _ n hc (Nat.mod_lt _ (Nat.pow_pos (by decide))) hn, bitStep_eq hc (Nat.mod_lt _ (by decide))]
  have e1 : x % 2 ^ (n + 1) / 2 ^ n % 2 = x / 2 ^ n % 2 := by
    rw [Nat.pow_succ, Nat.mod_mul_right_div_self, Nat.mod_mod]
  have e2 : x % 2 ^ (n + 1) % 2 ^ n = x % 2 ^ n := by
    rw [Nat.pow_succ, Nat.mod_mul_right_mod]
  rw [e1, e2]

theorem byteB_eq {c x : Nat} (hc : c < 16777216) (hx : x < 256) : byteB c x = byteL c x := by
  unfold byteL byteB
  have f7 := feed' c x 7 hc (by decide)
  have f6 := feed' (bitStep c (x / 128 % 2)) x 6 (bitStep_lt _ _) (by decide)
  have f5 := feed' (bitStep (bitStep c (x / 128 % 2)) (x / 64 % 2)) x 5 (bitStep_lt _ _) (by decide)
  have f4 := feed' (bitStep (bitStep (bitStep c (x / 128 % 2)) (x / 64 % 2)) (x / 32 % 2)) x 4 (bitStep_lt _ _) (by decide)
  have f3 := feed' (bitStep (bitStep (bitStep (bitStep c (x / 128 % 2)) (x / 64 % 2)) (x / 32 % 2)) (x / 16 % 2)) x 3 (bitStep_lt _ _) (by decide)
  have f2 := feed' (bitStep (bitStep (bitStep (bitStep (bitStep c (x / 128 % 2)) (x / 64 % 2)) (x / 32 % 2)) (x / 16 % 2)) (x / 8 % 2)) x 2 (bitStep_lt _ _) (by decide)
  have f1 := feed' (bitStep (bitStep (bitStep (bitStep (bitStep (bitStep c (x / 128 % 2)) (x / 64 % 2)) (x / 32 % 2)) (x / 16 % 2)) (x / 8 % 2)) (x / 4 % 2)) x 1 (bitStep_lt _ _) (by decide)
  have f0 := feed' (bitStep (bitStep (bitStep (bitStep (bitStep (bitStep (bitStep c (x / 128 % 2)) (x / 64 % 2)) (x / 32 % 2)) (x / 16 % 2)) (x / 8 % 2)) (x / 4 % 2)) (x / 2 % 2)) x 0 (bitStep_lt _ _) (by decide)
  simp only [Nat.reduceAdd, Nat.reduceSub, Nat.reducePow, Nat.mod_one, Nat.zero_mul, Nat.xor_zero, Nat.div_one] at f0 f1 f2 f3 f4 f5 f6 f7
  rw [Nat.mod_eq_of_lt hx] at f7
  simp only [Ln]
  rw [f7, f6, f5, f4, f3, f2, f1, f0]

/-- The table's row. -/
def tab (h : Nat) : Nat := Ln 4 (h * 1048576)
/-- The program's step by half a byte. -/
def nib (c : Nat) : Nat := (c * 16 % 16777216) ^^^ tab (c / 1048576)
theorem nib_eq {c : Nat} (hc : c < 16777216) : nib c = Ln 4 c := by
  have e : c = (c / 1048576 * 1048576) ^^^ (c % 1048576) := by
    have h := add_xor (a := c / 1048576) (b := c % 1048576) (k := 20) (Nat.mod_lt _ (by decide))
    simp only [Nat.reducePow] at h
    rw [← h]; omega
  have h1 : c / 1048576 * 1048576 < 16777216 := by omega
  have h2 : c % 1048576 < 16777216 := by omega
  conv => rhs; rw [e, Ln_xor h1 h2, Ln_small 4 (c := c % 1048576) (by simp only [Nat.reducePow]; omega)]
  unfold nib tab
  rw [Nat.xor_comm]
  congr 1
  simp only [Nat.reducePow]; omega
theorem nib_lt {c : Nat} (hc : c < 16777216) : nib c < 16777216 := by rw [nib_eq hc]; exact Ln_lt hc
theorem byteN_eq {c x : Nat} (hc : c < 16777216) (hx : x < 256) : nib (nib (c ^^^ (x * 65536))) = byteL c x := by
  have h : c ^^^ (x * 65536) < 16777216 := xor_lt hc (by omega)
  rw [nib_eq (nib_lt h), nib_eq h, ← Ln_add]; rfl

theorem byteL_lt {c x : Nat} (hc : c < 16777216) (hx : x < 256) : byteL c x < 16777216 := Ln_lt (xor_lt hc (by omega))


/-- A register with bytes behind. -/
def run (c : Nat) (l : List UInt8) : Nat := l.foldl (fun c x => byteL c x.toNat) c
theorem run_nil (c : Nat) : run c [] = c := rfl
theorem run_cons (c : Nat) (x : UInt8) (l : List UInt8) : run c (x :: l) = run (byteL c x.toNat) l := rfl
theorem run_append (c : Nat) (a b : List UInt8) : run c (a ++ b) = run (run c a) b := List.foldl_append
theorem run_snoc (c : Nat) (a : List UInt8) (x : UInt8) : run c (a ++ [x]) = byteL (run c a) x.toNat := run_append ..
theorem run_lt {c : Nat} (hc : c < 16777216) (l : List UInt8) : run c l < 16777216 := by
  induction l generalizing c with
  | nil => exact hc
  | cons x l ih => exact ih (byteL_lt hc x.toNat_lt)
theorem byteL_xor {c d x y : Nat} (hc : c < 16777216) (hd : d < 16777216) (hx : x < 256) (hy : y < 256) :
    byteL (c ^^^ d) (x ^^^ y) = byteL c x ^^^ byteL d y := by
  unfold byteL
  have e : (x ^^^ y) * 65536 = (x * 65536) ^^^ (y * 65536) := by
    have := Nat.shiftLeft_xor_distrib (a := x) (b := y) (i := 16)
    simpa [Nat.shiftLeft_eq] using this
  rw [← Ln_xor (xor_lt hc (by omega)) (xor_lt hd (by omega)), e]
  congr 1
  ac_rfl
theorem run_xor {c d : Nat} (hc : c < 16777216) (hd : d < 16777216) : ∀ a b : List UInt8, a.length = b.length →
    run (c ^^^ d) (List.zipWith (· ^^^ ·) a b) = run c a ^^^ run d b
  | [], [], _ => rfl
  | x :: a, y :: b, h => by
    simp only [List.zipWith_cons_cons, run_cons, UInt8.toNat_xor]
    rw [byteL_xor hc hd x.toNat_lt y.toNat_lt]
    exact run_xor (byteL_lt hc x.toNat_lt) (byteL_lt hd y.toNat_lt) a b (by simpa using h)
theorem run_zeros (n : Nat) {c : Nat} (hc : c < 16777216) (h : run c (List.replicate n 0) = 0) : c = 0 := by
  induction n generalizing c with
  | zero => exact h
  | succ n ih =>
    rw [List.replicate_succ, run_cons] at h
    have h1 := ih (byteL_lt hc (by decide)) h
    unfold byteL at h1
    simpa using Ln_eq_zero (by simpa using hc) h1
theorem run_zero_zeros (n : Nat) : run 0 (List.replicate n 0) = 0 := by
  induction n with
  | zero => rfl
  | succ n ih =>
    rw [List.replicate_succ, run_cons]
    have : byteL 0 (UInt8.toNat 0) = 0 := by decide
    rw [this, ih]

theorem m16 {x : Nat} (h : x < 256) : x * 65536 < 16777216 := by omega
theorem m8 {x : Nat} (h : x < 256) : x * 256 < 16777216 := by omega
theorem m8' {x : Nat} (h : x < 256) : x * 256 < 65536 := by omega
theorem m0 {x : Nat} (h : x < 256) : x < 16777216 := by omega
theorem m0' {x : Nat} (h : x < 256) : x < 65536 := by omega
theorem m88 (x : Nat) : x * 256 * 256 = x * 65536 := by omega
theorem shr8 {v : Nat} (y : Nat) (hv : v < 16777216) (hy : y < 65536) : Ln 8 (v ^^^ y) = Ln 8 v ^^^ (y * 256) := by
  rw [Ln_xor hv (by omega), Ln_small 8 (c := y) (by simp only [Nat.reducePow]; omega)]
/-- Three bytes that are not all 0, on the empty register. -/
theorem run_three (x y z : UInt8) : run 0 [x, y, z] = Ln 24 ((x.toNat * 65536) ^^^ (y.toNat * 256) ^^^ z.toNat) := by
  have hx : x.toNat < 256 := x.toNat_lt; have hy : y.toNat < 256 := y.toNat_lt; have hz : z.toNat < 256 := z.toNat_lt
  simp only [run_cons, run_nil, byteL, Nat.zero_xor]
  rw [show (24 : Nat) = 8 + (8 + 8) from rfl, Ln_add, Ln_add, shr8 _ (xor_lt (m16 hx) (m8 hy)) (m0' hz), shr8 _ (m16 hx) (m8' hy), m88,
    shr8 _ (xor_lt (Ln_lt (m16 hx)) (m16 hy)) (Nat.mul_lt_mul_of_pos_right hz (by decide)), m88]
theorem join2 (x y : Nat) : x * 65536 + y * 256 = (x * 256 + y) * 256 := by omega
theorem join3 (x y z : Nat) (_hx : x < 256) (hy : y < 256) (hz : z < 256) : (x * 65536) ^^^ (y * 256) ^^^ z = x * 65536 + y * 256 + z := by
  have a1 := add_xor (a := x) (b := y * 256) (k := 16) (m8' hy)
  have a2 := add_xor (a := x * 256 + y) (b := z) (k := 8) hz
  simp only [Nat.reducePow] at a1 a2
  rw [← a1, join2, ← a2]
theorem run_three_ne {x y z : UInt8} (h : ¬ (x = 0 ∧ y = 0 ∧ z = 0)) : run 0 [x, y, z] ≠ 0 := by
  intro h0
  have hx : x.toNat < 256 := x.toNat_lt; have hy : y.toNat < 256 := y.toNat_lt; have hz : z.toNat < 256 := z.toNat_lt
  rw [run_three] at h0
  have h1 := Ln_eq_zero (xor_lt (xor_lt (m16 hx) (m8 hy)) (m0 hz)) h0
  rw [join3 _ _ _ hx hy hz] at h1
  exact h ⟨UInt8.toNat_inj.1 (by simp; omega), UInt8.toNat_inj.1 (by simp; omega), UInt8.toNat_inj.1 (by simp; omega)⟩

/-- The sum's own bytes behind it empty the register. -/
theorem run_own {c : Nat} (hc : c < 16777216) (x y z : UInt8) (hx : x.toNat = c / 65536) (hy : y.toNat = c / 256 % 256) (hz : z.toNat = c % 256) :
    run c [x, y, z] = 0 := by
  have hl : ([0, 0, 0] : List UInt8).length = [x, y, z].length := rfl
  have h := run_xor (c := c) (d := 0) hc (by decide) [0, 0, 0] [x, y, z] hl
  simp only [List.zipWith_cons_cons, List.zipWith_nil_left, UInt8.zero_xor, Nat.xor_zero] at h
  rw [h, run_three]
  have e : (x.toNat * 65536) ^^^ (y.toNat * 256) ^^^ z.toNat = c := by
    rw [join3 _ _ _ x.toNat_lt y.toNat_lt z.toNat_lt]; omega
  rw [e]
  have hz : run c [0, 0, 0] = Ln 24 c := by
    have h0 : (0 : UInt8).toNat = 0 := rfl
    simp only [run_cons, run_nil, byteL, h0, Nat.zero_mul, Nat.xor_zero]
    rw [show (24 : Nat) = 8 + (8 + 8) from rfl, Ln_add, Ln_add]
  rw [hz, Nat.xor_self]
/-- And no others do. -/
theorem run_own_only {c : Nat} (hc : c < 16777216) (x y z : UInt8) (h : run c [x, y, z] = 0) : x.toNat = c / 65536 ∧ y.toNat = c / 256 % 256 ∧ z.toNat = c % 256 := by
  let x' := UInt8.ofNat (c / 65536); let y' := UInt8.ofNat (c / 256 % 256); let z' := UInt8.ofNat (c % 256)
  have hx' : x'.toNat = c / 65536 := by simp [x']; omega
  have hy' : y'.toNat = c / 256 % 256 := by simp [y']
  have hz' : z'.toNat = c % 256 := by simp [z']
  have h' := run_own hc x' y' z' hx' hy' hz'
  have hxor := run_xor hc hc [x, y, z] [x', y', z'] rfl
  rw [h, h'] at hxor
  simp only [List.zipWith_cons_cons, List.zipWith_nil_left, Nat.xor_self] at hxor
  have hall : x ^^^ x' = 0 ∧ y ^^^ y' = 0 ∧ z ^^^ z' = 0 := Classical.byContradiction fun hn => run_three_ne hn hxor
  obtain ⟨h1, h2, h3⟩ := hall
  rw [UInt8.xor_eq_zero_iff] at h1 h2 h3
  rw [h1, h2, h3]
  exact ⟨hx', hy', hz'⟩

end Go.Proofs.Ythiaoeloomljbaa.CrcPure
