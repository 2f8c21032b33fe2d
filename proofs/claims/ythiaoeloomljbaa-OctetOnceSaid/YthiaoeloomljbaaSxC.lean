/-
  Rules for the evaluator's steps.
-/
import Derived.Test.YthiaoeloomljbaaSxB
import Derived.IntWalk
namespace Go.Sx
open Go.RowKit

/-! ### What may be done at a label -/
theorem NV.keep {v : Int} {K : Int → Prop} (h : K v) : NV v K := NV_iff.2 h
theorem NV.eq {v n : Int} {K : Int → Prop} (e : v = n) (h : K n) : NV v K := NV_iff.2 (e ▸ h)
theorem NV.all {v : Int} {K : Int → Prop} (h : ∀ n, n = v → K n) : NV v K := NV_iff.2 (h v rfl)
theorem NV.divk {x y : Int} {K : Int → Prop} (h : K (x / y)) : NV (x / y) K := NV_iff.2 h
theorem NV.modk {x y : Int} {K : Int → Prop} (h : K (x % y)) : NV (x % y) K := NV_iff.2 h
/-- A number under a new letter, with its bound. -/
theorem NV.nat {v : Int} {n B : Nat} {K : Int → Prop} (e : v = n) (hB : n < B) (h : ∀ x : Nat, x = n → x < B → K x) : NV v K := NV_iff.2 (e ▸ h n rfl hB)
theorem NS.keep {v : List UInt8} {K : List UInt8 → Prop} (h : K v) : NS v K := NS_iff.2 h
theorem NS.eq {v s : List UInt8} {K : List UInt8 → Prop} (e : v = s) (h : K s) : NS v K := NS_iff.2 (e ▸ h)
theorem NN.keep {v : Nat} {K : Nat → Prop} (h : K v) : NN v K := NN_iff.2 h
theorem NN.eq {v n : Nat} {K : Nat → Prop} (e : v = n) (h : K n) : NN v K := NN_iff.2 (e ▸ h)
theorem NN.cast {k : Nat} {K : Nat → Prop} (h : K k) : NN (Int.toNat (k : Int)) K := NN_iff.2 (by rw [Int.toNat_natCast]; exact h)
theorem NN.a1 {k : Nat} {K : Nat → Prop} (h : K k) : NN (0 + k * 1) K := NN.eq (by omega) h
theorem NN.a2 {k : Nat} {K : Nat → Prop} (h : K k) : NN (k * 1) K := NN.eq (by omega) h
theorem NN.a3 {o k : Nat} {K : Nat → Prop} (h : K (o + k)) : NN (o + k * 1) K := NN.eq (by omega) h
theorem NN.a4 {k s : Nat} {K : Nat → Prop} (h : K (k * s)) : NN (0 + k * s) K := NN.eq (by omega) h
theorem NN.a5 {k : Nat} {K : Nat → Prop} (h : K k) : NN (0 + k) K := NN.eq (by omega) h
theorem NN.a6 {k : Nat} {K : Nat → Prop} (h : K k) : NN (k + 0) K := NN.eq (by omega) h
theorem NH.mk {p q : Prop} (hp : p) (h : q) : NH p q := NH_iff.2 ⟨hp, h⟩
theorem NH.mk' {p q : Prop} (hp : p) (h : p → q) : NH p q := NH_iff.2 ⟨hp, h hp⟩
theorem NIf.yes {b : Bool} {p q : Prop} (hb : b = true) (h : p) : NIf b p q := NIf_iff.2 ⟨fun _ => h, fun e => absurd (hb.symm.trans e) (by decide)⟩
theorem NIf.no {b : Bool} {p q : Prop} (hb : b = false) (h : q) : NIf b p q := NIf_iff.2 ⟨fun e => absurd (hb.symm.trans e) (by decide), fun _ => h⟩
theorem NIf.both {b : Bool} {p q : Prop} (h1 : b = true → p) (h2 : b = false → q) : NIf b p q := NIf_iff.2 ⟨h1, h2⟩
theorem NIf.dec {c : Prop} {_ : Decidable c} {p q : Prop} (h1 : c → p) (h2 : ¬ c → q) : NIf (decide c) p q := NIf_iff.2 ⟨fun e => h1 (of_decide_eq_true e), fun e => h2 (of_decide_eq_false e)⟩
theorem NIf.decY {c : Prop} {_ : Decidable c} {p q : Prop} (hc : c) (h : p) : NIf (decide c) p q := NIf.yes (decide_eq_true hc) h
theorem NIf.decN {c : Prop} {_ : Decidable c} {p q : Prop} (hc : ¬ c) (h : q) : NIf (decide c) p q := NIf.no (decide_eq_false hc) h
theorem NIf.not_ {b : Bool} {p q : Prop} (h : NIf b q p) : NIf (!b) p q := by
  rw [NIf_iff] at h ⊢
  cases b
  · exact ⟨fun _ => h.2 rfl, fun e => absurd e (by decide)⟩
  · exact ⟨fun e => absurd e (by decide), fun _ => h.1 rfl⟩
theorem NBytes.mk {cs : List AV} {K : List UInt8 → Prop} (l : List UInt8) (e : denL cs = l.map (fun b => Value.int .u8 b.toNat)) (h : K l) : NBytes cs K := NBytes_iff.2 ⟨l, e, h⟩

/-! ### Numbers that fit -/
theorem wrap_i64 {x : Int} (h1 : -9223372036854775808 ≤ x) (h2 : x ≤ 9223372036854775807) : IntKind.i64.wrap x = x := IntWalk.i64_in x ⟨h1, h2⟩
theorem NV.i64 {x : Int} {K : Int → Prop} (h1 : -9223372036854775808 ≤ x ∧ x ≤ 9223372036854775807) (h : K x) : NV (IntKind.i64.wrap x) K := NV.eq (wrap_i64 h1.1 h1.2) h
theorem wrap_u {k : IntKind} (hk : k.signed = false) (x : Int) : k.wrap x = x % (2 ^ k.bits : Int) := by
  unfold IntKind.wrap; simp [hk]
theorem wrap_u32 (x : Int) : IntKind.u32.wrap x = x % 4294967296 := wrap_u rfl x
theorem wrap_u64 (x : Int) : IntKind.u64.wrap x = x % 18446744073709551616 := wrap_u rfl x
theorem wrap_u8 (x : Int) : IntKind.u8.wrap x = x % 256 := wrap_u rfl x
theorem NV.u32 {x : Int} {K : Int → Prop} (h1 : 0 ≤ x ∧ x < 4294967296) (h : K x) : NV (IntKind.u32.wrap x) K := NV.eq (by rw [wrap_u32]; omega) h
theorem NV.u8 {x : Int} {K : Int → Prop} (h1 : 0 ≤ x ∧ x < 256) (h : K x) : NV (IntKind.u8.wrap x) K := NV.eq (by rw [wrap_u8]; omega) h
theorem NV.u64 {x : Int} {K : Int → Prop} (h1 : 0 ≤ x ∧ x < 18446744073709551616) (h : K x) : NV (IntKind.u64.wrap x) K := NV.eq (by rw [wrap_u64]; omega) h

theorem NV.quo {k : IntKind} {x y : Int} {K : Int → Prop} (h1 : 0 ≤ x ∧ 0 ≤ y) (h : NV (k.wrap (x / y)) K) : NV (k.wrap (x.tdiv y)) K := by rw [Int.tdiv_eq_ediv_of_nonneg h1.1]; exact h
theorem NV.rem {x y : Int} {K : Int → Prop} (h1 : 0 ≤ x) (h : K (x % y)) : NV (x.tmod y) K := NV.eq (Int.tmod_eq_emod_of_nonneg h1) h
theorem wrap_small {k : IntKind} {v : Nat} {n : Nat} (hn : n + (if k.signed then 1 else 0) ≤ k.bits) (h : v < 2 ^ n) : k.wrap (v : Int) = v := by
  unfold IntKind.wrap
  have hp : (2 : Nat) ^ n ≤ 2 ^ k.bits := Nat.pow_le_pow_right (by decide) (by split at hn <;> omega)
  have hm : ((v : Int) % (2 ^ k.bits : Int)) = v := by
    have : ((2 ^ k.bits : Nat) : Int) = (2 ^ k.bits : Int) := by simp
    rw [← this]
    exact Int.emod_eq_of_lt (by omega) (by omega)
  simp only [hm]
  split
  · rename_i hc
    simp only [Bool.and_eq_true, decide_eq_true_eq] at hc
    exfalso
    rw [if_pos hc.1] at hn
    have hp2 : (2 : Nat) ^ n ≤ 2 ^ (k.bits - 1) := Nat.pow_le_pow_right (by decide) (by omega)
    have h3 : ((2 ^ (k.bits - 1) : Nat) : Int) = (2 ^ (k.bits - 1) : Int) := by simp
    have h4 := hc.2
    rw [← h3] at h4
    have : 2 ^ (k.bits - 1) ≤ v := by exact_mod_cast h4
    omega
  · rfl
theorem bv_nat (w a : Nat) (h : a < 2 ^ w) : (BitVec.ofInt w (a : Int)).toNat = a := by
  rw [BitVec.ofInt_natCast, BitVec.toNat_ofNat, Nat.mod_eq_of_lt h]
theorem bitv_xor {k : IntKind} {a b n : Nat} (hn : n + (if k.signed then 1 else 0) ≤ k.bits) (ha : a < 2 ^ n) (hb : b < 2 ^ n) : bitv .xor k a b = ((a ^^^ b : Nat) : Int) := by
  have hp : (2 : Nat) ^ n ≤ 2 ^ k.bits := Nat.pow_le_pow_right (by decide) (by split at hn <;> omega)
  unfold bitv
  have ea := bv_nat k.bits a (Nat.lt_of_lt_of_le ha hp)
  have eb := bv_nat k.bits b (Nat.lt_of_lt_of_le hb hp)
  simp only [BitVec.toNat_xor, ea, eb]
  exact wrap_small hn (Nat.xor_lt_two_pow ha hb)
theorem bitv_or {k : IntKind} {a b n : Nat} (hn : n + (if k.signed then 1 else 0) ≤ k.bits) (ha : a < 2 ^ n) (hb : b < 2 ^ n) : bitv .or k a b = ((a ||| b : Nat) : Int) := by
  have hp : (2 : Nat) ^ n ≤ 2 ^ k.bits := Nat.pow_le_pow_right (by decide) (by split at hn <;> omega)
  unfold bitv
  have ea := bv_nat k.bits a (Nat.lt_of_lt_of_le ha hp)
  have eb := bv_nat k.bits b (Nat.lt_of_lt_of_le hb hp)
  simp only [BitVec.toNat_or, ea, eb]
  exact wrap_small hn (Nat.or_lt_two_pow ha hb)
theorem bitv_and {k : IntKind} {a b n : Nat} (hn : n + (if k.signed then 1 else 0) ≤ k.bits) (ha : a < 2 ^ n) (hb : b < 2 ^ n) : bitv .and k a b = ((a &&& b : Nat) : Int) := by
  have hp : (2 : Nat) ^ n ≤ 2 ^ k.bits := Nat.pow_le_pow_right (by decide) (by split at hn <;> omega)
  unfold bitv
  have ea := bv_nat k.bits a (Nat.lt_of_lt_of_le ha hp)
  have eb := bv_nat k.bits b (Nat.lt_of_lt_of_le hb hp)
  simp only [BitVec.toNat_and, ea, eb]
  exact wrap_small hn (Nat.and_lt_two_pow a hb)

theorem bitv_mask {k : IntKind} {x : Int} {n : Nat} (hn : n + (if k.signed then 1 else 0) ≤ k.bits) (h0 : 0 ≤ x) : bitv .and k x ((2 ^ n - 1 : Nat) : Int) = x % ((2 ^ n : Nat) : Int) := by
  have hp : (2 : Nat) ^ n ≤ 2 ^ k.bits := Nat.pow_le_pow_right (by decide) (by split at hn <;> omega)
  have hpos : 0 < 2 ^ n := Nat.pow_pos (by decide)
  obtain ⟨a, rfl⟩ := Int.eq_ofNat_of_zero_le h0
  unfold bitv
  have ea : (BitVec.ofInt k.bits (a : Int)).toNat = a % 2 ^ k.bits := by rw [BitVec.ofInt_natCast, BitVec.toNat_ofNat]
  have eb := bv_nat k.bits (2 ^ n - 1) (by omega)
  simp only [BitVec.toNat_and, ea, eb]
  rw [Nat.and_two_pow_sub_one_eq_mod, Nat.mod_mod_of_dvd _ (Nat.pow_dvd_pow 2 (by split at hn <;> omega))]
  rw [wrap_small hn (Nat.mod_lt _ hpos)]
  simp

/-! ### Loops -/
theorem Fit1.any (x : AV) : Fit1 x .any := .inl rfl
theorem Fit1.int {k : IntKind} {a b : Int} (h : a = b) : Fit1 (.int k a) (.int k b) := .inr ⟨by simp, by rw [h]⟩
theorem Fit1.bool {a b : Bool} (h : a = b) : Fit1 (.bool a) (.bool b) := .inr ⟨by simp, by rw [h]⟩
theorem Fit1.str {a b : List UInt8} (h : a = b) : Fit1 (.str a) (.str b) := .inr ⟨by simp, by rw [h]⟩
theorem Fit1.ptr {i j : Nat} {a b : Addr} {o p : Nat} (h : a = b) (ho : o = p) : Fit1 (.ptr i a o) (.ptr j b p) := .inr ⟨by simp, by rw [h, ho]; rfl⟩
theorem Fit1.sl {i j n n' : Nat} {v v' : Value} (h : v = v') : Fit1 (.sl i v n) (.sl j v' n') := .inr ⟨by simp, by rw [h]; rfl⟩
theorem Fit1.nil_sl {i : Nat} : Fit1 (.raw (.slice none 0 0)) (.sl i (.slice none 0 0) 0) := .inr ⟨by simp, rfl⟩
theorem Fit1.raw {v : Value} : Fit1 (.raw v) (.raw v) := .inr ⟨by simp, rfl⟩
theorem Fit1.same {x y : AV} (h : x ≠ .any) (e : x = y) : Fit1 x y := .inr ⟨h, by rw [e]⟩
theorem FitsSl.nil : FitsSl [] [] := trivial
theorem FitsSl.cons {x y : AV} {xs ys : List AV} (h : Fit1 x y) (hs : FitsSl xs ys) : FitsSl (x :: xs) (y :: ys) := ⟨h, hs⟩
theorem FitsSl.any {x : AV} {xs ys : List AV} (hs : FitsSl xs ys) : FitsSl (x :: xs) (.any :: ys) := ⟨.inl rfl, hs⟩

def MemFits (m m' : List Blk) : Prop := ∀ w, MemOk m w → MemOk m' w ∧ ∀ b, wrs m' b → wrs m b
theorem MemFits.rfl_ (m : List Blk) : MemFits m m := fun _ h => ⟨h, fun _ hb => hb⟩
theorem MemFits.eq {m m' : List Blk} (e : m = m') : MemFits m m' := e ▸ MemFits.rfl_ m
theorem MemFits.trans {a b c : List Blk} (h : MemFits a b) (k : MemFits b c) : MemFits a c := fun w hm => ⟨(k w (h w hm).1).1, fun x hx => (h w hm).2 x ((k w (h w hm).1).2 x hx)⟩
/-- Blocks at the end are let go. -/
theorem MemFits.drop (m x : List Blk) : MemFits (m ++ x) m := fun _ h =>
  ⟨⟨fun k hk => h.holds k (List.mem_append_left _ hk), (List.pairwise_append.1 h.sep).1⟩, fun _ ⟨k, hk, h1, h2⟩ => ⟨k, List.mem_append_left _ hk, h1, h2⟩⟩
/-- A nil slice is a row of nothing. -/
theorem MemFits.nilRow (m : List Blk) (t : TypeId) (sz : Nat) : MemFits m (m ++ [⟨⟨0, 0, none⟩, [], .row (.slice none 0 0) t sz 0⟩]) := fun w h =>
  ⟨h.push (Nat.le_refl _) (fun _ _ _ _ => rfl) ⟨World.ownsRow_nil w 0 t sz, rfl⟩ (fun b hb => by simp [Blk.bn, Value.ownBlock] at hb),
    fun b hb => (wrs_push hb).elim id fun e => by simp [Blk.bn, Value.ownBlock] at e⟩

/-- A loop by a state of letters. -/
theorem NLoop.by {body : List AV → List Blk → Post → Prop} {sl : List AV} {m : List Blk} {Q : Post} {α : Type} (ok : α → Prop) (s : α → List AV) (mm : α → List Blk) (μ : α → Nat) (x : α)
    (hx : ok x) (hs : FitsSl sl (s x)) (hm : MemFits m (mm x))
    (hround : ∀ x, ok x → body (s x) (mm x) fun e sl' m' =>
      match e with
      | .normal => ∃ x', ok x' ∧ μ x' < μ x ∧ FitsSl sl' (s x') ∧ MemFits m' (mm x')
      | e => Q e sl' m') : NLoop body sl m Q := by
  unfold NLoop
  exact .inl ⟨α, ok, s, mm, μ, ⟨x, hx, hs, hm⟩, hround⟩
theorem NLoop.rounds {body : List AV → List Blk → Post → Prop} {sl : List AV} {m : List Blk} {Q : Post} (n : Nat) (h : roundsK body Q n sl m) : NLoop body sl m Q := by
  unfold NLoop
  exact .inr ⟨n, h⟩


/-! ### Cells at a place that is a letter -/
theorem nthK.of {cs : List AV} {o : Nat} {x : AV} {K : AV → Prop} (h : cs[o]? = some x) (hK : K x) : nthK cs o K := by
  induction cs generalizing o with
  | nil => simp at h
  | cons y cs ih =>
    cases o with
    | zero => simp at h; subst h; exact hK
    | succ o => exact ih (by simpa using h)
theorem cellsK.of {cs xs : List AV} {o n : Nat} {K : List AV → Prop} (h : o + n ≤ cs.length) (e : (cs.drop o).take n = xs) (hK : K xs) : cellsK cs o n K := by
  subst e
  induction cs generalizing o n K with
  | nil =>
    simp at h
    obtain ⟨rfl, rfl⟩ := h
    exact hK
  | cons y cs ih =>
    cases o with
    | zero =>
      cases n with
      | zero => exact hK
      | succ n => exact ih (o := 0) (K := fun ys => K (y :: ys)) (by simp at h ⊢; omega) (by simpa using hK)
    | succ o => exact ih (o := o) (K := K) (by simp at h; omega) (by simpa using hK)
theorem putK.of {cs vs : List AV} {o : Nat} {K : List AV → Prop} (h : o + vs.length ≤ cs.length) (hK : K (cs.take o ++ vs ++ cs.drop (o + vs.length))) : putK cs o vs K := by
  induction cs generalizing o vs K with
  | nil =>
    simp at h
    obtain ⟨rfl, rfl⟩ := h
    exact hK
  | cons y cs ih =>
    cases o with
    | zero =>
      cases vs with
      | nil => simpa [putK] using hK
      | cons v vs => exact ih (o := 0) (vs := vs) (K := fun ys => K (v :: ys)) (by simp at h ⊢; omega) (by simpa using hK)
    | succ o =>
      refine ih (o := o) (vs := vs) (K := fun ys => K (y :: ys)) (by simp at h; omega) ?_
      rw [show o + 1 + vs.length = (o + vs.length) + 1 from by omega] at hK
      simpa using hK
theorem putK.one {cs : List AV} {o : Nat} {v : AV} {K : List AV → Prop} (h : o < cs.length) (hK : K (cs.set o v)) : putK cs o [v] K := by
  refine putK.of (by simp; omega) ?_
  rw [List.set_eq_take_append_cons_drop, if_pos h] at hK
  simpa using hK

/-! ### Steps: one statement at a time, what follows behind a letter -/
def thenS (P : Program) (b : Code) (Q : Post) : Post := fun e sl m => match e with
  | .normal => codeK P b sl m Q
  | e => Q e sl m
def blockS (id : Nat) (Q : Post) : Post := fun e sl m => match e with
  | .exit j => match Nat.decEq j id with
    | .isTrue _ => Q .normal sl m
    | .isFalse _ => Q (.exit j) sl m
  | e => Q e sl m
def scopeS (Q : Post) : Post := fun e sl m => match e with
  | .goto _ => False
  | e => Q e sl m
def normS (Q : Post) : List AV → List Blk → Prop := fun sl m => Q .normal sl m
def retS (P : Program) (fn : Func) (R : AV → List Blk → Prop) : Post := fun e sl m => match e with
  | .normal => resK P m sl fn.results.toList fun xs => retK xs fun r => R r m
  | .ret => resK P m sl fn.results.toList fun xs => retK xs fun r => R r m
  | _ => False
def roundS {α : Type} (ok : α → Prop) (s : α → List AV) (mm : α → List Blk) (μ : α → Nat) (x : α) (Q : Post) : Post := fun e sl m => match e with
  | .normal => ∃ x', ok x' ∧ μ x' < μ x ∧ FitsSl sl (s x') ∧ MemFits m (mm x')
  | e => Q e sl m
section
variable {P : Program} {Q : Post} {sl : List AV} {m : List Blk} {a b c : Code} {id j : Nat}
theorem z33 {fn : Func} {c : Code} {args : List AV} {R : AV → List Blk → Prop} (hb : fn.body = some c) (h : ∀ K : List AV → Prop, (∀ sl, codeK P c sl m (retS P fn R) → K sl) → argK args fn.ntmps K) : funcK P fn args m R := by
  unfold funcK
  rw [hb]
  exact h _ fun _ h => h
theorem z3 (h : codeK P a sl m (thenS P b Q)) : codeK P (.seq a b) sl m Q := h
theorem z5 (h : codeK P a sl m (blockS id Q)) : codeK P (.block id a) sl m Q := h
theorem z14 (h : codeK P a sl m (scopeS Q)) : codeK P (.scope a) sl m Q := h
theorem z4 {l : List Oper} (h : opsK P l.toArray l sl m (normS Q)) : codeK P (.region id l.toArray false) sl m Q := by
  simp only [codeK]
  exact h
theorem z34 {l : List Oper} (h1 : P.follows .mixedOrders = true) (h2 : Region.lexB .any l.toArray = true) (h : opsQ P l.toArray l sl m (normS Q)) : codeK P (.region id l.toArray true) sl m Q := by
  simp only [codeK]
  exact ndraw_quiet h1 h2 h
theorem z35 {l : List Oper} (h1 : P.follows .mixedOrders = true) (n : Nat) (hn : l.length = n) (h : NOrd P l n [] sl m (normS Q)) : codeK P (.region id l.toArray true) sl m Q := by
  simp only [codeK]
  exact ndraw_ord h1 n hn h
theorem z6 (h : Q .normal sl m) : codeK P .skip sl m Q := h
theorem z15 (h : Q .normal sl m) : codeK P (.label j) sl m Q := h
theorem z7 (h : Q (.exit id) sl m) : codeK P (.exit id) sl m Q := h
theorem z8 (h : Q .ret sl m) : codeK P .ret sl m Q := h
theorem z29 {o : Operand} (h : ∀ A B : Prop, (codeK P a sl m Q → A) → (codeK P b sl m Q → B) → evK sl o fun v => match v with
    | .bool x => NIf x A B
    | _ => False) : codeK P (.cond o a b) sl m Q := h _ _ (fun h => h) (fun h => h)
theorem st_loop {α : Type} (ok : α → Prop) (s : α → List AV) (mm : α → List Blk) (μ : α → Nat) (x : α) (hx : ok x) (hs : FitsSl sl (s x)) (hm : MemFits m (mm x))
    (hround : ∀ x, ok x → codeK P a (s x) (mm x) (roundS ok s mm μ x Q)) : codeK P (.loop a) sl m Q := NLoop.by ok s mm μ x hx hs hm hround
def moreS (P : Program) (a : Code) (n : Nat) (Q : Post) : Post := fun e sl m => match e with
  | .normal => roundsK (codeK P a) Q n sl m
  | e => Q e sl m
theorem st_rounds (n : Nat) (h : codeK P a sl m (moreS P a n Q)) : codeK P (.loop a) sl m Q := NLoop.rounds (n + 1) h
theorem z21 {n : Nat} (h : codeK P a sl m (moreS P a n Q)) : moreS P a (n + 1) Q .normal sl m := h
theorem z22 {n : Nat} (h : Q (.exit j) sl m) : moreS P a n Q (.exit j) sl m := h
theorem z23 {n : Nat} (h : Q .ret sl m) : moreS P a n Q .ret sl m := h
theorem z2 (h : codeK P b sl m Q) : thenS P b Q .normal sl m := h
theorem z11 (h : Q (.exit j) sl m) : thenS P b Q (.exit j) sl m := h
theorem z12 (h : Q .ret sl m) : thenS P b Q .ret sl m := h
theorem z9 (h : Q .normal sl m) : blockS id Q .normal sl m := h
theorem z13 (h : Q .ret sl m) : blockS id Q .ret sl m := h
theorem z10 (h : Q .normal sl m) : blockS id Q (.exit id) sl m := by
  unfold blockS
  split
  · rename_i heq; injection heq with heq; subst heq
    split
    · exact h
    · rename_i hn _; exact (hn rfl).elim
  · rename_i hn; exact (hn id rfl).elim
theorem z30 (hj : j ≠ id) (h : Q (.exit j) sl m) : blockS id Q (.exit j) sl m := by
  unfold blockS
  split
  · rename_i heq; injection heq with heq; subst heq
    split
    · rename_i hn _; exact (hj hn).elim
    · exact h
  · rename_i hn; exact (hn j rfl).elim
theorem z16 (h : Q .normal sl m) : scopeS Q .normal sl m := h
theorem z17 (h : Q .ret sl m) : scopeS Q .ret sl m := h
theorem z18 (h : Q (.exit j) sl m) : scopeS Q (.exit j) sl m := h
theorem z1 (h : Q .normal sl m) : normS Q sl m := h
theorem z31 {fn : Func} {R : AV → List Blk → Prop} {rs : List ResultVar} (hr : fn.results.toList = rs) (h : ∀ K : AV → Prop, (∀ r, R r m → K r) → resK P m sl rs fun xs => retK xs K) : retS P fn R .ret sl m := by
  show resK P m sl fn.results.toList _
  rw [hr]
  exact h _ fun _ h => h
theorem z32 {fn : Func} {R : AV → List Blk → Prop} {rs : List ResultVar} (hr : fn.results.toList = rs) (h : ∀ K : AV → Prop, (∀ r, R r m → K r) → resK P m sl rs fun xs => retK xs K) : retS P fn R .normal sl m := by
  show resK P m sl fn.results.toList _
  rw [hr]
  exact h _ fun _ h => h
section
variable {α : Type} {ok : α → Prop} {s : α → List AV} {mm : α → List Blk} {μ : α → Nat} {x : α}
theorem st_round (x' : α) (h1 : ok x') (h2 : μ x' < μ x) (h3 : FitsSl sl (s x')) (h4 : MemFits m (mm x')) : roundS ok s mm μ x Q .normal sl m := ⟨x', h1, h2, h3, h4⟩
theorem z19 (h : Q (.exit j) sl m) : roundS ok s mm μ x Q (.exit j) sl m := h
theorem z20 (h : Q .ret sl m) : roundS ok s mm μ x Q .ret sl m := h
end
section
variable {ops : Array Oper} {o : Oper} {rest : List Oper} {k : List AV → List Blk → Prop}
theorem z0 (h : k sl m) : opsK P ops [] sl m k := h
theorem z25 {d : Option Tmp} {op : Op} {t : TypeId} {p : String} {e : Array Edge} (h : ∀ K : List AV → List Blk → Prop, (∀ sl m, opsK P ops rest sl m k → K sl m) → opM P sl m op fun v m' => dstK sl d v fun sl' => K sl' m') :
    opsK P ops (⟨d, op, t, p, e, none⟩ :: rest) sl m k := h _ fun _ _ h => h
theorem z26 {d : Option Tmp} {op : Op} {t : TypeId} {p : String} {e : Array Edge} {g : Nat × Bool} (h : ∀ K : List AV → List Blk → Prop, (∀ sl m, opsK P ops rest sl m k → K sl m) → guardK ops sl g.1 g.2 (opM P sl m op fun v m' => dstK sl d v fun sl' => K sl' m') (dstK sl d (.raw undef) fun sl' => K sl' m)) :
    opsK P ops (⟨d, op, t, p, e, some g⟩ :: rest) sl m k := h _ fun _ _ h => h
theorem z24 (h : k sl m) : opsQ P ops [] sl m k := h
theorem z27 {d : Option Tmp} {op : Op} {t : TypeId} {p : String} {e : Array Edge} (h : ∀ K : List AV → List Blk → Prop, (∀ sl m, opsQ P ops rest sl m k → K sl m) → opQ P sl m op fun v => dstK sl d v fun sl' => K sl' m) :
    opsQ P ops (⟨d, op, t, p, e, none⟩ :: rest) sl m k := h _ fun _ _ h => h
theorem z28 {d : Option Tmp} {op : Op} {t : TypeId} {p : String} {e : Array Edge} {g : Nat × Bool} (h : ∀ K : List AV → List Blk → Prop, (∀ sl m, opsQ P ops rest sl m k → K sl m) → guardK ops sl g.1 g.2 (opQ P sl m op fun v => dstK sl d v fun sl' => K sl' m) (dstK sl d (.raw undef) fun sl' => K sl' m)) :
    opsQ P ops (⟨d, op, t, p, e, some g⟩ :: rest) sl m k := h _ fun _ _ h => h
end
end

end Go.Sx
