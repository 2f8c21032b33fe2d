/-
  Matches: the document's hits, within and meet, bit by bit.
-/
import Derived.Test.YtokbckflleaplaaDoorMt4
namespace Go.Proofs.YtokbckflleaplaaDoor
open Go.Sx
set_option maxRecDepth 20000
set_option linter.unusedSimpArgs false
set_option linter.unusedVariables false
set_option linter.unusedVariables false
namespace Mt
def bt (n i : Nat) : Nat := n / 2 ^ i % 2
theorem bt_lt (n i : Nat) : bt n i < 2 := Nat.mod_lt _ (by decide)
theorem bt_bit (n i : Nat) : bit (n : Int) i = (bt n i : Int) := by unfold bit bt; simp
theorem bt_tb (n i : Nat) : n.testBit i = decide (bt n i = 1) := by unfold bt; exact Nat.testBit_eq_decide_div_mod_eq
theorem tb_hi {a i : Nat} (h : a < 256) (hi : 8 ≤ i) : a.testBit i = false := bit_hi (n := 8) h hi
theorem hit1_bt (p v m : Nat) (hm : m < 256) : hit1 p v m ↔ ∀ i, i < 8 → bt m i = 1 → bt v i = bt p i := by
  rw [hit1_iff]
  constructor
  · intro h i _ h1
    have := h i (by rw [bt_tb, h1]; rfl)
    rw [bt_tb, bt_tb] at this
    have h2 := bt_lt p i
    have h3 := bt_lt v i
    simp only [decide_eq_decide] at this
    omega
  · intro h i hi
    rcases Nat.lt_or_ge i 8 with h8 | h8
    · rw [bt_tb] at hi
      rw [bt_tb, bt_tb, h i h8 (of_decide_eq_true hi)]
    · rw [tb_hi hm h8] at hi; cases hi
theorem alike_bt (a ma b mb : Nat) (hm : ma < 256) : alike a ma b mb ↔ ∀ i, i < 8 → bt mb i = 1 → bt ma i = 1 → bt a i = bt b i := by
  rw [alike_iff]
  constructor
  · intro h i _ h1 h2
    have := h i (by rw [bt_tb, h2]; rfl) (by rw [bt_tb, h1]; rfl)
    rw [bt_tb, bt_tb] at this
    have h3 := bt_lt a i
    have h4 := bt_lt b i
    simp only [decide_eq_decide] at this
    omega
  · intro h i hi hj
    rcases Nat.lt_or_ge i 8 with h8 | h8
    · rw [bt_tb] at hi hj
      rw [bt_tb, bt_tb, h i h8 (of_decide_eq_true hj) (of_decide_eq_true hi)]
    · rw [tb_hi hm h8] at hi; cases hi
theorem or_eq_left (a b : Nat) : a ||| b = a ↔ Sub b a := by
  constructor
  · intro h i hi
    rw [← h, Nat.testBit_or, hi, Bool.or_true]
  · intro h
    refine Nat.eq_of_testBit_eq fun i => ?_
    rw [Nat.testBit_or]
    have := h i
    cases hx : b.testBit i with
    | false => simp
    | true => simp [this hx]
theorem sub_bt (a b : Nat) (ha : a < 256) : Sub a b ↔ ∀ i, i < 8 → bt a i = 1 → bt b i = 1 := by
  constructor
  · intro h i _ h1
    have := h i (by rw [bt_tb, h1]; rfl)
    rw [bt_tb] at this
    exact of_decide_eq_true this
  · intro h i hi
    rcases Nat.lt_or_ge i 8 with h8 | h8
    · rw [bt_tb] at hi ⊢
      rw [h i h8 (of_decide_eq_true hi)]; rfl
    · rw [tb_hi ha h8] at hi; cases hi
/-- Within, bit by bit. -/
def in1 (va ma vb mb i : Nat) : Prop := bt mb i = 1 → bt ma i = 1 ∧ bt va i = bt vb i
theorem within_bt (a b : N) (ha : a.ok) (hb : b.ok) : within a b ↔ (b.p = -1 ∨ a.p = b.p) ∧ ∀ f, f < 4 → ∀ i, i < 8 → in1 (a.v f) (a.m f) (b.v f) (b.m f) i := by
  have hpa := ha.1
  have hpb := hb.1
  have e : meet a b = a ↔ (max a.p b.p = a.p) ∧ ∀ f, f < 4 → a.v f ||| b.v f = a.v f ∧ a.m f ||| b.m f = a.m f := by
    constructor
    · intro h
      refine ⟨congrArg N.p h, fun f _ => ⟨?_, ?_⟩⟩
      · rw [← meet_v, h]
      · rw [← meet_m, h]
    · rintro ⟨h1, h2⟩
      obtain ⟨p, v0, v1, v2, v3, m0, m1, m2, m3⟩ := a
      obtain ⟨k0, j0⟩ := h2 0 (by decide)
      obtain ⟨k1, j1⟩ := h2 1 (by decide)
      obtain ⟨k2, j2⟩ := h2 2 (by decide)
      obtain ⟨k3, j3⟩ := h2 3 (by decide)
      simp only [N.v, N.m] at k0 k1 k2 k3 j0 j1 j2 j3
      simp only [meet, h1, k0, k1, k2, k3, j0, j1, j2, j3]
  unfold within meets
  rw [e]
  constructor
  · rintro ⟨⟨h1, h2⟩, h3, h4⟩
    refine ⟨by omega, fun f hf i hi hm => ?_⟩
    obtain ⟨h5, h6⟩ := h4 f hf
    have lb := hb.lt f hf
    have la := ha.lt f hf
    have h7 := (sub_bt _ _ lb.2).1 ((or_eq_left _ _).1 h6) i hi hm
    exact ⟨h7, (alike_bt _ _ _ _ la.2).1 (h2 f hf) i hi hm h7⟩
  · rintro ⟨h1, h2⟩
    refine ⟨⟨by omega, fun f hf => ?_⟩, by omega, fun f hf => ⟨?_, ?_⟩⟩
    · exact (alike_bt _ _ _ _ (ha.lt f hf).2).2 fun i hi hb _ => (h2 f hf i hi hb).2
    · refine (or_eq_left _ _).2 ((sub_bt _ _ (hb.lt f hf).1).2 fun i hi hv => ?_)
      have := (sub_bt _ _ (hb.lt f hf).1).1 (hb.2 f hf).2 i hi hv
      rw [(h2 f hf i hi this).2, hv]
    · exact (or_eq_left _ _).2 ((sub_bt _ _ (hb.lt f hf).2).2 fun i hi hm => (h2 f hf i hi hm).1)
/-! ### Bits laid in, one by one -/
theorem add_or : ∀ x, x < 256 → ∀ i, i < 8 → bt x i = 0 → x + 2 ^ i = x ||| 2 ^ i := by decide +kernel
theorem or_same : ∀ x, x < 256 → ∀ i, i < 8 → bt x i = 1 → x ||| 2 ^ i = x := by decide +kernel
theorem mod_step : ∀ x, x < 256 → ∀ i, i < 8 → x % 2 ^ (i + 1) = x % 2 ^ i ||| (if bt x i = 1 then 2 ^ i else 0) := by decide +kernel
theorem or_step (a b i : Nat) (ha : a < 256) (hb : b < 256) (hi : i < 8) : a ||| b % 2 ^ (i + 1) = if bt b i = 1 ∧ bt a i = 0 then (a ||| b % 2 ^ i) + 2 ^ i else a ||| b % 2 ^ i := by
  rw [mod_step b hb i hi]
  have h2 := bt_lt a i
  have hl : a ||| b % 2 ^ i < 256 := Nat.or_lt_two_pow (n := 8) ha (Nat.lt_of_le_of_lt (Nat.mod_le _ _) hb)
  by_cases h1 : bt b i = 1
  · rw [if_pos h1]
    by_cases h0 : bt a i = 0
    · rw [if_pos ⟨h1, h0⟩, ← Nat.or_assoc]
      refine (add_or _ hl i hi ?_).symm
      have h3 : (a ||| b % 2 ^ i).testBit i = false := by
        rw [Nat.testBit_or, Nat.testBit_mod_two_pow, bt_tb, h0]
        simp
      rw [bt_tb] at h3
      have := bt_lt (a ||| b % 2 ^ i) i
      have := of_decide_eq_false h3
      omega
    · rw [if_neg (fun h => h0 h.2), ← Nat.or_assoc, Nat.or_assoc, Nat.or_comm (b % 2 ^ i), ← Nat.or_assoc, or_same a ha i hi (by omega)]
  · rw [if_neg h1, if_neg (fun h => h1 h.1), Nat.or_zero]
end Mt
theorem bt_c (n i : Nat) (hn : n < 256) (hi : i ≤ 8) : NCall Tryd.prog 77 [.int .i64 n, .int .i64 i] [] fun r _ => r = .int .i64 (Mt.bt n i : Nat) :=
  (bit_c n i (by omega) hi).mono fun r _ h => by rw [h, Mt.bt_bit]
set_option maxHeartbeats 1000000 in
theorem refhits_c (x : Mt.N) (hx : x.lt) (port : Int) (k : Nat → Nat) (hk : ∀ f, f < 4 → k f < 256) : NCall Tryd.prog 30 [.agg x.toM.av, .int .i64 port, pkAv k] [] fun r _ => r = .bool (decide (Mt.hits x port k)) := by
  have hv : ∀ f, f < 4 → x.toM.av[1 + f]? = some (.int .i64 (x.v f)) ∧ x.toM.av[5 + f]? = some (.int .i64 (x.m f)) := all4.2 ⟨⟨rfl, rfl⟩, ⟨rfl, rfl⟩, ⟨rfl, rfl⟩, rfl, rfl⟩
  have hkv : ∀ f, f < 4 → [AV.int .i64 (k 0), AV.int .i64 (k 1), AV.int .i64 (k 2), AV.int .i64 (k 3)][f]? = some (.int .i64 (k f)) := all4.2 ⟨rfl, rfl, rfl, rfl⟩
  have hp : x.toM.av[0]? = some (.int .i64 x.p) := rfl
  have q : Mt.hits x port k ↔ (x.p = -1 ∨ x.p = port) ∧ ∀ f, f < 4 → ∀ i, i < 8 → Mt.bt (x.m f) i = 1 → Mt.bt (x.v f) i = Mt.bt (k f) i :=
    and_congr Iff.rfl (forall_congr' fun f => forall_congr' fun hf => Mt.hit1_bt _ _ _ (hx f hf).2)
  unfold pkAv
  refine ncall_of Tryd.func30 rfl (by decide) ?_
  generalize x.toM.av = cs at *
  generalize [AV.int .i64 (k 0), AV.int .i64 (k 1), AV.int .i64 (k 2), AV.int .i64 (k 3)] = ks at *
  by_cases hq : x.p = -1 ∨ x.p = port
  rotate_left
  · (repeat' (first | (with_reducible first|refine z0 ?_|refine z1 ?_|refine z2 ?_|refine z3 ?_|refine z4 ?_|refine z5 ?_|refine z6 ?_|refine z7 ?_|refine z8 ?_|refine z9 ?_|refine z10 ?_|refine z11 ?_|refine z12 ?_|refine z13 ?_|refine z14 ?_|refine z15 ?_|refine z16 ?_|refine z17 ?_|refine z18 ?_|refine z19 ?_|refine z20 ?_|refine z21 ?_|refine z22 ?_|refine z23 ?_|refine z24 ?_) | (((with_reducible first|refine z25 ?_|refine z26 ?_|refine z27 ?_|refine z28 ?_);intro K hK;(conv=>whnf))) | (with_reducible first|(refine hK _ _ ?_;clear hK K)|(refine hA ?_;clear hA hB A B)|(refine hB ?_;clear hA hB A B)|(refine hK _ ?_;clear hK K)) | ((with_reducible refine z29 ?_);intro A B hA hB;(conv=>whnf)) | (refine z30 (by decide) ?_) | ((first|refine z31 rfl ?_|refine z32 rfl ?_|refine z33 rfl ?_);intro K hK;(conv=>whnf)) | (refine z34 (by kernel_rfl) (by kernel_rfl) ?_) | ((refine nthK.of (hp) ?_) <;> (conv=>whnf)) | (((with_reducible first|refine NV.quo ?s ?_|refine NV.rem ?s ?_|refine NV.i64 ?s ?_|refine NV.u32 ?s ?_|refine NV.u8 ?s ?_|refine NV.u64 ?s ?_);case s=>omega)<;>(conv=>whnf)) | ((with_reducible first|refine NV.divk ?_|refine NV.modk ?_|refine NN.lit ?_|refine NN.cast ?_|refine NN.a1 ?_|refine NN.a2 ?_|refine NN.a3 ?_|refine NN.a4 ?_|refine NN.a5 ?_|refine NN.a6 ?_|refine NV.keep ?_|refine NN.keep ?_|refine NS.keep ?_|refine NIf.not_ ?_)<;>(conv=>whnf)) | (((with_reducible refine NH.mk ?s ?_);case s=>(and_intros <;> first | with_reducible rfl | omega | assumption | exact Nat.le_of_ble_eq_true rfl | (simp only [List.length_append, List.length_cons, List.length_nil]; omega) | rfl))<;>(conv=>whnf)) | (((with_reducible refine NIf.decY ?s ?_);case s=>first|with_reducible rfl|assumption|omega)<;>(conv=>whnf)) | (((with_reducible refine NIf.decN ?s ?_);case s=>first|with_reducible rfl|assumption|omega)<;>(conv=>whnf)) | (((with_reducible refine NIf.yes ?s ?_);case s=>first|rfl|assumption)<;>(conv=>whnf)) | (((with_reducible refine NIf.no ?s ?_);case s=>first|rfl|assumption)<;>(conv=>whnf)) | (((with_reducible refine NLd.of (by with_reducible assumption) ?_))<;>(conv=>whnf)) | ((refine NFlat_iff.2 ⟨⟨?s1,?s2⟩,?_⟩;(case s1=>decide +kernel);(case s2=>decide +kernel))<;>(conv=>whnf)) | ((with_reducible first|refine NIf.dec (fun _=>?_) (fun _=>?_)|refine NIf.both (fun _=>?_) (fun _=>?_))<;>(conv=>whnf)) | ((intro _;skip)<;>(conv=>whnf))))
    all_goals exact boolF (fun h => by have := (q.1 h).1; omega)
  by_cases hq1 : x.p = -1 <;> by_cases hq2 : x.p = port
  all_goals first | omega | skip
  all_goals (repeat' (first | (with_reducible first|refine z0 ?_|refine z1 ?_|refine z2 ?_|refine z3 ?_|refine z4 ?_|refine z5 ?_|refine z6 ?_|refine z7 ?_|refine z8 ?_|refine z9 ?_|refine z10 ?_|refine z11 ?_|refine z12 ?_|refine z13 ?_|refine z14 ?_|refine z15 ?_|refine z16 ?_|refine z17 ?_|refine z18 ?_|refine z19 ?_|refine z20 ?_|refine z21 ?_|refine z22 ?_|refine z23 ?_|refine z24 ?_) | (((with_reducible first|refine z25 ?_|refine z26 ?_|refine z27 ?_|refine z28 ?_);intro K hK;(conv=>whnf))) | (with_reducible first|(refine hK _ _ ?_;clear hK K)|(refine hA ?_;clear hA hB A B)|(refine hB ?_;clear hA hB A B)|(refine hK _ ?_;clear hK K)) | ((with_reducible refine z29 ?_);intro A B hA hB;(conv=>whnf)) | (refine z30 (by decide) ?_) | ((first|refine z31 rfl ?_|refine z32 rfl ?_|refine z33 rfl ?_);intro K hK;(conv=>whnf)) | (refine z34 (by kernel_rfl) (by kernel_rfl) ?_) | ((refine nthK.of (hp) ?_) <;> (conv=>whnf)) | (((with_reducible first|refine NV.quo ?s ?_|refine NV.rem ?s ?_|refine NV.i64 ?s ?_|refine NV.u32 ?s ?_|refine NV.u8 ?s ?_|refine NV.u64 ?s ?_);case s=>omega)<;>(conv=>whnf)) | ((with_reducible first|refine NV.divk ?_|refine NV.modk ?_|refine NN.lit ?_|refine NN.cast ?_|refine NN.a1 ?_|refine NN.a2 ?_|refine NN.a3 ?_|refine NN.a4 ?_|refine NN.a5 ?_|refine NN.a6 ?_|refine NV.keep ?_|refine NN.keep ?_|refine NS.keep ?_|refine NIf.not_ ?_)<;>(conv=>whnf)) | (((with_reducible refine NH.mk ?s ?_);case s=>(and_intros <;> first | with_reducible rfl | omega | assumption | exact Nat.le_of_ble_eq_true rfl | (simp only [List.length_append, List.length_cons, List.length_nil]; omega) | rfl))<;>(conv=>whnf)) | (((with_reducible refine NIf.decY ?s ?_);case s=>first|with_reducible rfl|assumption|omega)<;>(conv=>whnf)) | (((with_reducible refine NIf.decN ?s ?_);case s=>first|with_reducible rfl|assumption|omega)<;>(conv=>whnf)) | (((with_reducible refine NIf.yes ?s ?_);case s=>first|rfl|assumption)<;>(conv=>whnf)) | (((with_reducible refine NIf.no ?s ?_);case s=>first|rfl|assumption)<;>(conv=>whnf)) | (((with_reducible refine NLd.of (by with_reducible assumption) ?_))<;>(conv=>whnf)) | ((refine NFlat_iff.2 ⟨⟨?s1,?s2⟩,?_⟩;(case s1=>decide +kernel);(case s2=>decide +kernel))<;>(conv=>whnf)) | ((with_reducible first|refine NIf.dec (fun _=>?_) (fun _=>?_)|refine NIf.both (fun _=>?_) (fun _=>?_))<;>(conv=>whnf)) | ((intro _;skip)<;>(conv=>whnf))))
  all_goals
    refine st_auto (α := Nat) (fun f => f ≤ 4 ∧ ∀ g, g < f → ∀ i, i < 8 → Mt.bt (x.m g) i = 1 → Mt.bt (x.v g) i = Mt.bt (k g) i) (fun f => [.keep, .keep, .keep, .keep, .keep, .keep, .drop, .set (.int .i64 f), .drop, .keep, .keep, .keep, .keep, .keep, .keep, .keep, .keep, .keep, .drop, .drop, .drop, .drop, .drop, .drop, .drop, .drop, .drop, .drop, .drop, .drop, .drop, .drop, .drop, .drop, .drop, .drop, .drop, .drop, .drop, .drop, .drop, .drop, .drop, .drop, .drop, .drop, .drop]) (fun _ => []) (fun f => 4 - f) 0 ⟨by decide, fun g hg => absurd hg (Nat.not_lt_zero _)⟩ ?_ (MemFits.eq rfl) ?_
    · repeat (first | exact FitsSl.nil | refine FitsSl.any ?_ | refine FitsSl.cons (Fit1.int (by first | rfl | omega)) ?_ | refine FitsSl.cons (Fit1.bool rfl) ?_ | refine FitsSl.cons (Fit1.str rfl) ?_ | refine FitsSl.cons (Fit1.same (by intro h; cases h) (by with_reducible rfl)) ?_ | refine FitsSl.cons Fit1.nil_sl ?_ | refine FitsSl.cons (Fit1.hs rfl) ?_ | refine FitsSl.cons (Fit1.hp rfl rfl) ?_ | refine FitsSl.cons (Fit1.sl rfl) ?_ | refine FitsSl.cons (Fit1.ptr rfl rfl) ?_ | refine FitsSl.cons Fit1.raw ?_)
    (intro f ⟨hf, hok⟩; intro K hK; (conv=>whnf); refine hK _ _ ?_; clear hK K)
    by_cases hlt : f < 4
    rotate_left
    · have e : f = 4 := by omega
      subst e
      (repeat' (first | (with_reducible first|refine z0 ?_|refine z1 ?_|refine z2 ?_|refine z3 ?_|refine z4 ?_|refine z5 ?_|refine z6 ?_|refine z7 ?_|refine z8 ?_|refine z9 ?_|refine z10 ?_|refine z11 ?_|refine z12 ?_|refine z13 ?_|refine z14 ?_|refine z15 ?_|refine z16 ?_|refine z17 ?_|refine z18 ?_|refine z19 ?_|refine z20 ?_|refine z21 ?_|refine z22 ?_|refine z23 ?_|refine z24 ?_) | (((with_reducible first|refine z25 ?_|refine z26 ?_|refine z27 ?_|refine z28 ?_);intro K hK;(conv=>whnf))) | (with_reducible first|(refine hK _ _ ?_;clear hK K)|(refine hA ?_;clear hA hB A B)|(refine hB ?_;clear hA hB A B)|(refine hK _ ?_;clear hK K)) | ((with_reducible refine z29 ?_);intro A B hA hB;(conv=>whnf)) | (refine z30 (by decide) ?_) | ((first|refine z31 rfl ?_|refine z32 rfl ?_|refine z33 rfl ?_);intro K hK;(conv=>whnf)) | (refine z34 (by kernel_rfl) (by kernel_rfl) ?_) | (((with_reducible first|refine NV.quo ?s ?_|refine NV.rem ?s ?_|refine NV.i64 ?s ?_|refine NV.u32 ?s ?_|refine NV.u8 ?s ?_|refine NV.u64 ?s ?_);case s=>omega)<;>(conv=>whnf)) | ((with_reducible first|refine NV.divk ?_|refine NV.modk ?_|refine NN.lit ?_|refine NN.cast ?_|refine NN.a1 ?_|refine NN.a2 ?_|refine NN.a3 ?_|refine NN.a4 ?_|refine NN.a5 ?_|refine NN.a6 ?_|refine NV.keep ?_|refine NN.keep ?_|refine NS.keep ?_|refine NIf.not_ ?_)<;>(conv=>whnf)) | (((with_reducible refine NH.mk ?s ?_);case s=>(and_intros <;> first | with_reducible rfl | omega | assumption | exact Nat.le_of_ble_eq_true rfl | (simp only [List.length_append, List.length_cons, List.length_nil]; omega) | rfl))<;>(conv=>whnf)) | (((with_reducible refine NIf.decY ?s ?_);case s=>first|with_reducible rfl|assumption|omega)<;>(conv=>whnf)) | (((with_reducible refine NIf.decN ?s ?_);case s=>first|with_reducible rfl|assumption|omega)<;>(conv=>whnf)) | (((with_reducible refine NIf.yes ?s ?_);case s=>first|rfl|assumption)<;>(conv=>whnf)) | (((with_reducible refine NIf.no ?s ?_);case s=>first|rfl|assumption)<;>(conv=>whnf)) | (((with_reducible refine NLd.of (by with_reducible assumption) ?_))<;>(conv=>whnf)) | ((refine NFlat_iff.2 ⟨⟨?s1,?s2⟩,?_⟩;(case s1=>decide +kernel);(case s2=>decide +kernel))<;>(conv=>whnf)) | ((with_reducible first|refine NIf.dec (fun _=>?_) (fun _=>?_)|refine NIf.both (fun _=>?_) (fun _=>?_))<;>(conv=>whnf)) | ((intro _;skip)<;>(conv=>whnf))))
      exact boolT (q.2 ⟨hq, hok⟩)
    have hv := hv f hlt
    have hkv := hkv f hlt
    have hxl := hx f hlt
    have hkl := hk f hlt
    (repeat' (first | (with_reducible first|refine z0 ?_|refine z1 ?_|refine z2 ?_|refine z3 ?_|refine z4 ?_|refine z5 ?_|refine z6 ?_|refine z7 ?_|refine z8 ?_|refine z9 ?_|refine z10 ?_|refine z11 ?_|refine z12 ?_|refine z13 ?_|refine z14 ?_|refine z15 ?_|refine z16 ?_|refine z17 ?_|refine z18 ?_|refine z19 ?_|refine z20 ?_|refine z21 ?_|refine z22 ?_|refine z23 ?_|refine z24 ?_) | (((with_reducible first|refine z25 ?_|refine z26 ?_|refine z27 ?_|refine z28 ?_);intro K hK;(conv=>whnf))) | (with_reducible first|(refine hK _ _ ?_;clear hK K)|(refine hA ?_;clear hA hB A B)|(refine hB ?_;clear hA hB A B)|(refine hK _ ?_;clear hK K)) | ((with_reducible refine z29 ?_);intro A B hA hB;(conv=>whnf)) | (refine z30 (by decide) ?_) | ((first|refine z31 rfl ?_|refine z32 rfl ?_|refine z33 rfl ?_);intro K hK;(conv=>whnf)) | (refine z34 (by kernel_rfl) (by kernel_rfl) ?_) | (((with_reducible first|refine NV.quo ?s ?_|refine NV.rem ?s ?_|refine NV.i64 ?s ?_|refine NV.u32 ?s ?_|refine NV.u8 ?s ?_|refine NV.u64 ?s ?_);case s=>omega)<;>(conv=>whnf)) | ((with_reducible first|refine NV.divk ?_|refine NV.modk ?_|refine NN.lit ?_|refine NN.cast ?_|refine NN.a1 ?_|refine NN.a2 ?_|refine NN.a3 ?_|refine NN.a4 ?_|refine NN.a5 ?_|refine NN.a6 ?_|refine NV.keep ?_|refine NN.keep ?_|refine NS.keep ?_|refine NIf.not_ ?_)<;>(conv=>whnf)) | (((with_reducible refine NH.mk ?s ?_);case s=>(and_intros <;> first | with_reducible rfl | omega | assumption | exact Nat.le_of_ble_eq_true rfl | (simp only [List.length_append, List.length_cons, List.length_nil]; omega) | rfl))<;>(conv=>whnf)) | (((with_reducible refine NIf.decY ?s ?_);case s=>first|with_reducible rfl|assumption|omega)<;>(conv=>whnf)) | (((with_reducible refine NIf.decN ?s ?_);case s=>first|with_reducible rfl|assumption|omega)<;>(conv=>whnf)) | (((with_reducible refine NIf.yes ?s ?_);case s=>first|rfl|assumption)<;>(conv=>whnf)) | (((with_reducible refine NIf.no ?s ?_);case s=>first|rfl|assumption)<;>(conv=>whnf)) | (((with_reducible refine NLd.of (by with_reducible assumption) ?_))<;>(conv=>whnf)) | ((refine NFlat_iff.2 ⟨⟨?s1,?s2⟩,?_⟩;(case s1=>decide +kernel);(case s2=>decide +kernel))<;>(conv=>whnf)) | ((with_reducible first|refine NIf.dec (fun _=>?_) (fun _=>?_)|refine NIf.both (fun _=>?_) (fun _=>?_))<;>(conv=>whnf)) | ((intro _;skip)<;>(conv=>whnf))))
    refine st_auto (α := Nat) (fun i => i ≤ 8 ∧ ∀ j, j < i → Mt.bt (x.m f) j = 1 → Mt.bt (x.v f) j = Mt.bt (k f) j) (fun i => [.keep, .keep, .keep, .keep, .keep, .keep, .drop, .keep, .set (.int .i64 i), .keep, .keep, .keep, .keep, .keep, .keep, .keep, .keep, .keep, .keep, .keep, .keep, .keep, .drop, .drop, .drop, .drop, .drop, .drop, .drop, .drop, .drop, .drop, .drop, .drop, .drop, .drop, .drop, .drop, .drop, .drop, .drop, .drop, .drop, .drop, .drop, .drop, .drop]) (fun _ => []) (fun i => 8 - i) 0 ⟨by decide, fun g hg => absurd hg (Nat.not_lt_zero _)⟩ ?_ (MemFits.eq rfl) ?_
    · repeat (first | exact FitsSl.nil | refine FitsSl.any ?_ | refine FitsSl.cons (Fit1.int (by first | rfl | omega)) ?_ | refine FitsSl.cons (Fit1.bool rfl) ?_ | refine FitsSl.cons (Fit1.str rfl) ?_ | refine FitsSl.cons (Fit1.same (by intro h; cases h) (by with_reducible rfl)) ?_ | refine FitsSl.cons Fit1.nil_sl ?_ | refine FitsSl.cons (Fit1.hs rfl) ?_ | refine FitsSl.cons (Fit1.hp rfl rfl) ?_ | refine FitsSl.cons (Fit1.sl rfl) ?_ | refine FitsSl.cons (Fit1.ptr rfl rfl) ?_ | refine FitsSl.cons Fit1.raw ?_)
    (intro i ⟨hi, hib⟩; intro K hK; (conv=>whnf); refine hK _ _ ?_; clear hK K)
    by_cases hi8 : i < 8
    rotate_left
    · have e : i = 8 := by omega
      subst e
      (repeat' (first | (with_reducible first|refine z0 ?_|refine z1 ?_|refine z2 ?_|refine z3 ?_|refine z4 ?_|refine z5 ?_|refine z6 ?_|refine z7 ?_|refine z8 ?_|refine z9 ?_|refine z10 ?_|refine z11 ?_|refine z12 ?_|refine z13 ?_|refine z14 ?_|refine z15 ?_|refine z16 ?_|refine z17 ?_|refine z18 ?_|refine z19 ?_|refine z20 ?_|refine z21 ?_|refine z22 ?_|refine z23 ?_|refine z24 ?_) | (((with_reducible first|refine z25 ?_|refine z26 ?_|refine z27 ?_|refine z28 ?_);intro K hK;(conv=>whnf))) | (with_reducible first|(refine hK _ _ ?_;clear hK K)|(refine hA ?_;clear hA hB A B)|(refine hB ?_;clear hA hB A B)|(refine hK _ ?_;clear hK K)) | ((with_reducible refine z29 ?_);intro A B hA hB;(conv=>whnf)) | (refine z30 (by decide) ?_) | ((first|refine z31 rfl ?_|refine z32 rfl ?_|refine z33 rfl ?_);intro K hK;(conv=>whnf)) | (refine z34 (by kernel_rfl) (by kernel_rfl) ?_) | (((with_reducible first|refine NV.quo ?s ?_|refine NV.rem ?s ?_|refine NV.i64 ?s ?_|refine NV.u32 ?s ?_|refine NV.u8 ?s ?_|refine NV.u64 ?s ?_);case s=>omega)<;>(conv=>whnf)) | ((with_reducible first|refine NV.divk ?_|refine NV.modk ?_|refine NN.lit ?_|refine NN.cast ?_|refine NN.a1 ?_|refine NN.a2 ?_|refine NN.a3 ?_|refine NN.a4 ?_|refine NN.a5 ?_|refine NN.a6 ?_|refine NV.keep ?_|refine NN.keep ?_|refine NS.keep ?_|refine NIf.not_ ?_)<;>(conv=>whnf)) | (((with_reducible refine NH.mk ?s ?_);case s=>(and_intros <;> first | with_reducible rfl | omega | assumption | exact Nat.le_of_ble_eq_true rfl | (simp only [List.length_append, List.length_cons, List.length_nil]; omega) | rfl))<;>(conv=>whnf)) | (((with_reducible refine NIf.decY ?s ?_);case s=>first|with_reducible rfl|assumption|omega)<;>(conv=>whnf)) | (((with_reducible refine NIf.decN ?s ?_);case s=>first|with_reducible rfl|assumption|omega)<;>(conv=>whnf)) | (((with_reducible refine NIf.yes ?s ?_);case s=>first|rfl|assumption)<;>(conv=>whnf)) | (((with_reducible refine NIf.no ?s ?_);case s=>first|rfl|assumption)<;>(conv=>whnf)) | (((with_reducible refine NLd.of (by with_reducible assumption) ?_))<;>(conv=>whnf)) | ((refine NFlat_iff.2 ⟨⟨?s1,?s2⟩,?_⟩;(case s1=>decide +kernel);(case s2=>decide +kernel))<;>(conv=>whnf)) | ((with_reducible first|refine NIf.dec (fun _=>?_) (fun _=>?_)|refine NIf.both (fun _=>?_) (fun _=>?_))<;>(conv=>whnf)) | ((intro _;skip)<;>(conv=>whnf))))
      refine st_round (f + 1) ⟨hlt, fun g hg => ?_⟩ (by omega) ?_ (MemFits.eq rfl)
      · by_cases e : g = f
        · subst e; exact hib
        · exact hok g (by omega)
      · repeat (first | exact FitsSl.nil | refine FitsSl.any ?_ | refine FitsSl.cons (Fit1.int (by first | rfl | omega)) ?_ | refine FitsSl.cons (Fit1.bool rfl) ?_ | refine FitsSl.cons (Fit1.str rfl) ?_ | refine FitsSl.cons (Fit1.same (by intro h; cases h) (by with_reducible rfl)) ?_ | refine FitsSl.cons Fit1.nil_sl ?_ | refine FitsSl.cons (Fit1.hs rfl) ?_ | refine FitsSl.cons (Fit1.hp rfl rfl) ?_ | refine FitsSl.cons (Fit1.sl rfl) ?_ | refine FitsSl.cons (Fit1.ptr rfl rfl) ?_ | refine FitsSl.cons Fit1.raw ?_)
    have b1 := bt_c _ i hxl.2 (by omega)
    have b2 := bt_c _ i hxl.1 (by omega)
    have b3 := bt_c _ i hkl (by omega)
    have hno : Mt.hits x port k → Mt.bt (x.m f) i = 1 → Mt.bt (x.v f) i = Mt.bt (k f) i := fun h => (q.1 h).2 f hlt i hi8
    have hyes : (Mt.bt (x.m f) i = 1 → Mt.bt (x.v f) i = Mt.bt (k f) i) → ∀ j, j < i + 1 → Mt.bt (x.m f) j = 1 → Mt.bt (x.v f) j = Mt.bt (k f) j := fun h j hj => by
      by_cases e : j = i
      · subst e; exact h
      · exact hib j (by omega)
    generalize Mt.bt (x.m f) i = t1 at *
    generalize Mt.bt (x.v f) i = t2 at *
    generalize Mt.bt (k f) i = t3 at *
    (repeat' (first | (with_reducible first|refine z0 ?_|refine z1 ?_|refine z2 ?_|refine z3 ?_|refine z4 ?_|refine z5 ?_|refine z6 ?_|refine z7 ?_|refine z8 ?_|refine z9 ?_|refine z10 ?_|refine z11 ?_|refine z12 ?_|refine z13 ?_|refine z14 ?_|refine z15 ?_|refine z16 ?_|refine z17 ?_|refine z18 ?_|refine z19 ?_|refine z20 ?_|refine z21 ?_|refine z22 ?_|refine z23 ?_|refine z24 ?_) | (((with_reducible first|refine z25 ?_|refine z26 ?_|refine z27 ?_|refine z28 ?_);intro K hK;(conv=>whnf))) | (with_reducible first|(refine hK _ _ ?_;clear hK K)|(refine hA ?_;clear hA hB A B)|(refine hB ?_;clear hA hB A B)|(refine hK _ ?_;clear hK K)) | ((with_reducible refine z29 ?_);intro A B hA hB;(conv=>whnf)) | (refine z30 (by decide) ?_) | ((first|refine z31 rfl ?_|refine z32 rfl ?_|refine z33 rfl ?_);intro K hK;(conv=>whnf)) | (refine z34 (by kernel_rfl) (by kernel_rfl) ?_) | ((refine nthK.of (hv.1) ?_) <;> (conv=>whnf)) | ((refine nthK.of (hv.2) ?_) <;> (conv=>whnf)) | ((refine nthK.of (hkv) ?_) <;> (conv=>whnf)) | ((with_reducible refine NCallQ.isF 77 ?_); (refine NCallQ.pureEq (b1) ?_; (conv=>whnf))) | ((with_reducible refine NCallQ.isF 77 ?_); (refine NCallQ.pureEq (b2) ?_; (conv=>whnf))) | ((with_reducible refine NCallQ.isF 77 ?_); (refine NCallQ.pureEq (b3) ?_; (conv=>whnf))) | (((with_reducible first|refine NV.quo ?s ?_|refine NV.rem ?s ?_|refine NV.i64 ?s ?_|refine NV.u32 ?s ?_|refine NV.u8 ?s ?_|refine NV.u64 ?s ?_);case s=>omega)<;>(conv=>whnf)) | ((with_reducible first|refine NV.divk ?_|refine NV.modk ?_|refine NN.lit ?_|refine NN.cast ?_|refine NN.a1 ?_|refine NN.a2 ?_|refine NN.a3 ?_|refine NN.a4 ?_|refine NN.a5 ?_|refine NN.a6 ?_|refine NV.keep ?_|refine NN.keep ?_|refine NS.keep ?_|refine NIf.not_ ?_)<;>(conv=>whnf)) | (((with_reducible refine NH.mk ?s ?_);case s=>(and_intros <;> first | with_reducible rfl | omega | assumption | exact Nat.le_of_ble_eq_true rfl | (simp only [List.length_append, List.length_cons, List.length_nil]; omega) | rfl))<;>(conv=>whnf)) | (((with_reducible refine NIf.decY ?s ?_);case s=>first|with_reducible rfl|assumption|omega)<;>(conv=>whnf)) | (((with_reducible refine NIf.decN ?s ?_);case s=>first|with_reducible rfl|assumption|omega)<;>(conv=>whnf)) | (((with_reducible refine NIf.yes ?s ?_);case s=>first|rfl|assumption)<;>(conv=>whnf)) | (((with_reducible refine NIf.no ?s ?_);case s=>first|rfl|assumption)<;>(conv=>whnf)) | (((with_reducible refine NLd.of (by with_reducible assumption) ?_))<;>(conv=>whnf)) | ((refine NFlat_iff.2 ⟨⟨?s1,?s2⟩,?_⟩;(case s1=>decide +kernel);(case s2=>decide +kernel))<;>(conv=>whnf)) | ((with_reducible first|refine NIf.dec (fun _=>?_) (fun _=>?_)|refine NIf.both (fun _=>?_) (fun _=>?_))<;>(conv=>whnf)) | ((intro _;skip)<;>(conv=>whnf))))
    all_goals first
      | exact boolF (fun h => by have := hno h; omega)
      | (refine st_round (i + 1) ⟨hi8, hyes (by omega)⟩ (by omega) ?_ (MemFits.eq rfl)
         repeat (first | exact FitsSl.nil | refine FitsSl.any ?_ | refine FitsSl.cons (Fit1.int (by first | rfl | omega)) ?_ | refine FitsSl.cons (Fit1.bool rfl) ?_ | refine FitsSl.cons (Fit1.str rfl) ?_ | refine FitsSl.cons (Fit1.same (by intro h; cases h) (by with_reducible rfl)) ?_ | refine FitsSl.cons Fit1.nil_sl ?_ | refine FitsSl.cons (Fit1.hs rfl) ?_ | refine FitsSl.cons (Fit1.hp rfl rfl) ?_ | refine FitsSl.cons (Fit1.sl rfl) ?_ | refine FitsSl.cons (Fit1.ptr rfl rfl) ?_ | refine FitsSl.cons Fit1.raw ?_)
        )
set_option maxHeartbeats 1000000 in
theorem refwithin_c (a b : Mt.N) (ha : a.ok) (hb : b.ok) : NCall Tryd.prog 31 [.agg a.toM.av, .agg b.toM.av] [] fun r _ => r = .bool (decide (Mt.within a b)) := by
  have hav : ∀ f, f < 4 → a.toM.av[1 + f]? = some (.int .i64 (a.v f)) ∧ a.toM.av[5 + f]? = some (.int .i64 (a.m f)) := all4.2 ⟨⟨rfl, rfl⟩, ⟨rfl, rfl⟩, ⟨rfl, rfl⟩, rfl, rfl⟩
  have hbv : ∀ f, f < 4 → b.toM.av[1 + f]? = some (.int .i64 (b.v f)) ∧ b.toM.av[5 + f]? = some (.int .i64 (b.m f)) := all4.2 ⟨⟨rfl, rfl⟩, ⟨rfl, rfl⟩, ⟨rfl, rfl⟩, rfl, rfl⟩
  have hpa : a.toM.av[0]? = some (.int .i64 a.p) := rfl
  have hpb : b.toM.av[0]? = some (.int .i64 b.p) := rfl
  have q := Mt.within_bt a b ha hb
  have la := ha.lt
  have lb := hb.lt
  refine ncall_of Tryd.func31 rfl (by decide) ?_
  generalize a.toM.av = cs at *
  generalize b.toM.av = ds at *
  by_cases hq : b.p = -1 ∨ a.p = b.p
  rotate_left
  · (repeat' (first | (with_reducible first|refine z0 ?_|refine z1 ?_|refine z2 ?_|refine z3 ?_|refine z4 ?_|refine z5 ?_|refine z6 ?_|refine z7 ?_|refine z8 ?_|refine z9 ?_|refine z10 ?_|refine z11 ?_|refine z12 ?_|refine z13 ?_|refine z14 ?_|refine z15 ?_|refine z16 ?_|refine z17 ?_|refine z18 ?_|refine z19 ?_|refine z20 ?_|refine z21 ?_|refine z22 ?_|refine z23 ?_|refine z24 ?_) | (((with_reducible first|refine z25 ?_|refine z26 ?_|refine z27 ?_|refine z28 ?_);intro K hK;(conv=>whnf))) | (with_reducible first|(refine hK _ _ ?_;clear hK K)|(refine hA ?_;clear hA hB A B)|(refine hB ?_;clear hA hB A B)|(refine hK _ ?_;clear hK K)) | ((with_reducible refine z29 ?_);intro A B hA hB;(conv=>whnf)) | (refine z30 (by decide) ?_) | ((first|refine z31 rfl ?_|refine z32 rfl ?_|refine z33 rfl ?_);intro K hK;(conv=>whnf)) | (refine z34 (by kernel_rfl) (by kernel_rfl) ?_) | ((refine nthK.of (hpa) ?_) <;> (conv=>whnf)) | ((refine nthK.of (hpb) ?_) <;> (conv=>whnf)) | (((with_reducible first|refine NV.quo ?s ?_|refine NV.rem ?s ?_|refine NV.i64 ?s ?_|refine NV.u32 ?s ?_|refine NV.u8 ?s ?_|refine NV.u64 ?s ?_);case s=>omega)<;>(conv=>whnf)) | ((with_reducible first|refine NV.divk ?_|refine NV.modk ?_|refine NN.lit ?_|refine NN.cast ?_|refine NN.a1 ?_|refine NN.a2 ?_|refine NN.a3 ?_|refine NN.a4 ?_|refine NN.a5 ?_|refine NN.a6 ?_|refine NV.keep ?_|refine NN.keep ?_|refine NS.keep ?_|refine NIf.not_ ?_)<;>(conv=>whnf)) | (((with_reducible refine NH.mk ?s ?_);case s=>(and_intros <;> first | with_reducible rfl | omega | assumption | exact Nat.le_of_ble_eq_true rfl | (simp only [List.length_append, List.length_cons, List.length_nil]; omega) | rfl))<;>(conv=>whnf)) | (((with_reducible refine NIf.decY ?s ?_);case s=>first|with_reducible rfl|assumption|omega)<;>(conv=>whnf)) | (((with_reducible refine NIf.decN ?s ?_);case s=>first|with_reducible rfl|assumption|omega)<;>(conv=>whnf)) | (((with_reducible refine NIf.yes ?s ?_);case s=>first|rfl|assumption)<;>(conv=>whnf)) | (((with_reducible refine NIf.no ?s ?_);case s=>first|rfl|assumption)<;>(conv=>whnf)) | (((with_reducible refine NLd.of (by with_reducible assumption) ?_))<;>(conv=>whnf)) | ((refine NFlat_iff.2 ⟨⟨?s1,?s2⟩,?_⟩;(case s1=>decide +kernel);(case s2=>decide +kernel))<;>(conv=>whnf)) | ((with_reducible first|refine NIf.dec (fun _=>?_) (fun _=>?_)|refine NIf.both (fun _=>?_) (fun _=>?_))<;>(conv=>whnf)) | ((intro _;skip)<;>(conv=>whnf))))
    all_goals exact boolF (fun h => by have := (q.1 h).1; omega)
  by_cases hq1 : b.p = -1 <;> by_cases hq2 : a.p = b.p
  all_goals first | omega | skip
  all_goals (repeat' (first | (with_reducible first|refine z0 ?_|refine z1 ?_|refine z2 ?_|refine z3 ?_|refine z4 ?_|refine z5 ?_|refine z6 ?_|refine z7 ?_|refine z8 ?_|refine z9 ?_|refine z10 ?_|refine z11 ?_|refine z12 ?_|refine z13 ?_|refine z14 ?_|refine z15 ?_|refine z16 ?_|refine z17 ?_|refine z18 ?_|refine z19 ?_|refine z20 ?_|refine z21 ?_|refine z22 ?_|refine z23 ?_|refine z24 ?_) | (((with_reducible first|refine z25 ?_|refine z26 ?_|refine z27 ?_|refine z28 ?_);intro K hK;(conv=>whnf))) | (with_reducible first|(refine hK _ _ ?_;clear hK K)|(refine hA ?_;clear hA hB A B)|(refine hB ?_;clear hA hB A B)|(refine hK _ ?_;clear hK K)) | ((with_reducible refine z29 ?_);intro A B hA hB;(conv=>whnf)) | (refine z30 (by decide) ?_) | ((first|refine z31 rfl ?_|refine z32 rfl ?_|refine z33 rfl ?_);intro K hK;(conv=>whnf)) | (refine z34 (by kernel_rfl) (by kernel_rfl) ?_) | ((refine nthK.of (hpa) ?_) <;> (conv=>whnf)) | ((refine nthK.of (hpb) ?_) <;> (conv=>whnf)) | (((with_reducible first|refine NV.quo ?s ?_|refine NV.rem ?s ?_|refine NV.i64 ?s ?_|refine NV.u32 ?s ?_|refine NV.u8 ?s ?_|refine NV.u64 ?s ?_);case s=>omega)<;>(conv=>whnf)) | ((with_reducible first|refine NV.divk ?_|refine NV.modk ?_|refine NN.lit ?_|refine NN.cast ?_|refine NN.a1 ?_|refine NN.a2 ?_|refine NN.a3 ?_|refine NN.a4 ?_|refine NN.a5 ?_|refine NN.a6 ?_|refine NV.keep ?_|refine NN.keep ?_|refine NS.keep ?_|refine NIf.not_ ?_)<;>(conv=>whnf)) | (((with_reducible refine NH.mk ?s ?_);case s=>(and_intros <;> first | with_reducible rfl | omega | assumption | exact Nat.le_of_ble_eq_true rfl | (simp only [List.length_append, List.length_cons, List.length_nil]; omega) | rfl))<;>(conv=>whnf)) | (((with_reducible refine NIf.decY ?s ?_);case s=>first|with_reducible rfl|assumption|omega)<;>(conv=>whnf)) | (((with_reducible refine NIf.decN ?s ?_);case s=>first|with_reducible rfl|assumption|omega)<;>(conv=>whnf)) | (((with_reducible refine NIf.yes ?s ?_);case s=>first|rfl|assumption)<;>(conv=>whnf)) | (((with_reducible refine NIf.no ?s ?_);case s=>first|rfl|assumption)<;>(conv=>whnf)) | (((with_reducible refine NLd.of (by with_reducible assumption) ?_))<;>(conv=>whnf)) | ((refine NFlat_iff.2 ⟨⟨?s1,?s2⟩,?_⟩;(case s1=>decide +kernel);(case s2=>decide +kernel))<;>(conv=>whnf)) | ((with_reducible first|refine NIf.dec (fun _=>?_) (fun _=>?_)|refine NIf.both (fun _=>?_) (fun _=>?_))<;>(conv=>whnf)) | ((intro _;skip)<;>(conv=>whnf))))
  all_goals
    refine st_auto (α := Nat) (fun f => f ≤ 4 ∧ ∀ g, g < f → ∀ i, i < 8 → Mt.in1 (a.v g) (a.m g) (b.v g) (b.m g) i) (fun f => [.keep, .keep, .keep, .keep, .drop, .set (.int .i64 f), .drop, .keep, .keep, .keep, .keep, .keep, .keep, .keep, .keep, .keep, .keep, .drop, .drop, .drop, .drop, .drop, .drop, .drop, .drop, .drop, .drop, .drop, .drop, .drop, .drop, .drop, .drop, .drop, .drop, .drop, .drop, .drop, .drop, .drop, .drop, .drop, .drop, .drop, .drop, .drop, .drop, .drop, .drop, .drop, .drop, .drop, .drop, .drop, .drop, .drop]) (fun _ => []) (fun f => 4 - f) 0 ⟨by decide, fun g hg => absurd hg (Nat.not_lt_zero _)⟩ ?_ (MemFits.eq rfl) ?_
    · repeat (first | exact FitsSl.nil | refine FitsSl.any ?_ | refine FitsSl.cons (Fit1.int (by first | rfl | omega)) ?_ | refine FitsSl.cons (Fit1.bool rfl) ?_ | refine FitsSl.cons (Fit1.str rfl) ?_ | refine FitsSl.cons (Fit1.same (by intro h; cases h) (by with_reducible rfl)) ?_ | refine FitsSl.cons Fit1.nil_sl ?_ | refine FitsSl.cons (Fit1.hs rfl) ?_ | refine FitsSl.cons (Fit1.hp rfl rfl) ?_ | refine FitsSl.cons (Fit1.sl rfl) ?_ | refine FitsSl.cons (Fit1.ptr rfl rfl) ?_ | refine FitsSl.cons Fit1.raw ?_)
    (intro f ⟨hf, hok⟩; intro K hK; (conv=>whnf); refine hK _ _ ?_; clear hK K)
    by_cases hlt : f < 4
    rotate_left
    · have e : f = 4 := by omega
      subst e
      (repeat' (first | (with_reducible first|refine z0 ?_|refine z1 ?_|refine z2 ?_|refine z3 ?_|refine z4 ?_|refine z5 ?_|refine z6 ?_|refine z7 ?_|refine z8 ?_|refine z9 ?_|refine z10 ?_|refine z11 ?_|refine z12 ?_|refine z13 ?_|refine z14 ?_|refine z15 ?_|refine z16 ?_|refine z17 ?_|refine z18 ?_|refine z19 ?_|refine z20 ?_|refine z21 ?_|refine z22 ?_|refine z23 ?_|refine z24 ?_) | (((with_reducible first|refine z25 ?_|refine z26 ?_|refine z27 ?_|refine z28 ?_);intro K hK;(conv=>whnf))) | (with_reducible first|(refine hK _ _ ?_;clear hK K)|(refine hA ?_;clear hA hB A B)|(refine hB ?_;clear hA hB A B)|(refine hK _ ?_;clear hK K)) | ((with_reducible refine z29 ?_);intro A B hA hB;(conv=>whnf)) | (refine z30 (by decide) ?_) | ((first|refine z31 rfl ?_|refine z32 rfl ?_|refine z33 rfl ?_);intro K hK;(conv=>whnf)) | (refine z34 (by kernel_rfl) (by kernel_rfl) ?_) | (((with_reducible first|refine NV.quo ?s ?_|refine NV.rem ?s ?_|refine NV.i64 ?s ?_|refine NV.u32 ?s ?_|refine NV.u8 ?s ?_|refine NV.u64 ?s ?_);case s=>omega)<;>(conv=>whnf)) | ((with_reducible first|refine NV.divk ?_|refine NV.modk ?_|refine NN.lit ?_|refine NN.cast ?_|refine NN.a1 ?_|refine NN.a2 ?_|refine NN.a3 ?_|refine NN.a4 ?_|refine NN.a5 ?_|refine NN.a6 ?_|refine NV.keep ?_|refine NN.keep ?_|refine NS.keep ?_|refine NIf.not_ ?_)<;>(conv=>whnf)) | (((with_reducible refine NH.mk ?s ?_);case s=>(and_intros <;> first | with_reducible rfl | omega | assumption | exact Nat.le_of_ble_eq_true rfl | (simp only [List.length_append, List.length_cons, List.length_nil]; omega) | rfl))<;>(conv=>whnf)) | (((with_reducible refine NIf.decY ?s ?_);case s=>first|with_reducible rfl|assumption|omega)<;>(conv=>whnf)) | (((with_reducible refine NIf.decN ?s ?_);case s=>first|with_reducible rfl|assumption|omega)<;>(conv=>whnf)) | (((with_reducible refine NIf.yes ?s ?_);case s=>first|rfl|assumption)<;>(conv=>whnf)) | (((with_reducible refine NIf.no ?s ?_);case s=>first|rfl|assumption)<;>(conv=>whnf)) | (((with_reducible refine NLd.of (by with_reducible assumption) ?_))<;>(conv=>whnf)) | ((refine NFlat_iff.2 ⟨⟨?s1,?s2⟩,?_⟩;(case s1=>decide +kernel);(case s2=>decide +kernel))<;>(conv=>whnf)) | ((with_reducible first|refine NIf.dec (fun _=>?_) (fun _=>?_)|refine NIf.both (fun _=>?_) (fun _=>?_))<;>(conv=>whnf)) | ((intro _;skip)<;>(conv=>whnf))))
      exact boolT (q.2 ⟨hq, hok⟩)
    have hav := hav f hlt
    have hbv := hbv f hlt
    have la := la f hlt
    have lb := lb f hlt
    (repeat' (first | (with_reducible first|refine z0 ?_|refine z1 ?_|refine z2 ?_|refine z3 ?_|refine z4 ?_|refine z5 ?_|refine z6 ?_|refine z7 ?_|refine z8 ?_|refine z9 ?_|refine z10 ?_|refine z11 ?_|refine z12 ?_|refine z13 ?_|refine z14 ?_|refine z15 ?_|refine z16 ?_|refine z17 ?_|refine z18 ?_|refine z19 ?_|refine z20 ?_|refine z21 ?_|refine z22 ?_|refine z23 ?_|refine z24 ?_) | (((with_reducible first|refine z25 ?_|refine z26 ?_|refine z27 ?_|refine z28 ?_);intro K hK;(conv=>whnf))) | (with_reducible first|(refine hK _ _ ?_;clear hK K)|(refine hA ?_;clear hA hB A B)|(refine hB ?_;clear hA hB A B)|(refine hK _ ?_;clear hK K)) | ((with_reducible refine z29 ?_);intro A B hA hB;(conv=>whnf)) | (refine z30 (by decide) ?_) | ((first|refine z31 rfl ?_|refine z32 rfl ?_|refine z33 rfl ?_);intro K hK;(conv=>whnf)) | (refine z34 (by kernel_rfl) (by kernel_rfl) ?_) | (((with_reducible first|refine NV.quo ?s ?_|refine NV.rem ?s ?_|refine NV.i64 ?s ?_|refine NV.u32 ?s ?_|refine NV.u8 ?s ?_|refine NV.u64 ?s ?_);case s=>omega)<;>(conv=>whnf)) | ((with_reducible first|refine NV.divk ?_|refine NV.modk ?_|refine NN.lit ?_|refine NN.cast ?_|refine NN.a1 ?_|refine NN.a2 ?_|refine NN.a3 ?_|refine NN.a4 ?_|refine NN.a5 ?_|refine NN.a6 ?_|refine NV.keep ?_|refine NN.keep ?_|refine NS.keep ?_|refine NIf.not_ ?_)<;>(conv=>whnf)) | (((with_reducible refine NH.mk ?s ?_);case s=>(and_intros <;> first | with_reducible rfl | omega | assumption | exact Nat.le_of_ble_eq_true rfl | (simp only [List.length_append, List.length_cons, List.length_nil]; omega) | rfl))<;>(conv=>whnf)) | (((with_reducible refine NIf.decY ?s ?_);case s=>first|with_reducible rfl|assumption|omega)<;>(conv=>whnf)) | (((with_reducible refine NIf.decN ?s ?_);case s=>first|with_reducible rfl|assumption|omega)<;>(conv=>whnf)) | (((with_reducible refine NIf.yes ?s ?_);case s=>first|rfl|assumption)<;>(conv=>whnf)) | (((with_reducible refine NIf.no ?s ?_);case s=>first|rfl|assumption)<;>(conv=>whnf)) | (((with_reducible refine NLd.of (by with_reducible assumption) ?_))<;>(conv=>whnf)) | ((refine NFlat_iff.2 ⟨⟨?s1,?s2⟩,?_⟩;(case s1=>decide +kernel);(case s2=>decide +kernel))<;>(conv=>whnf)) | ((with_reducible first|refine NIf.dec (fun _=>?_) (fun _=>?_)|refine NIf.both (fun _=>?_) (fun _=>?_))<;>(conv=>whnf)) | ((intro _;skip)<;>(conv=>whnf))))
    refine st_auto (α := Nat) (fun i => i ≤ 8 ∧ ∀ j, j < i → Mt.in1 (a.v f) (a.m f) (b.v f) (b.m f) j) (fun i => [.keep, .keep, .keep, .keep, .drop, .keep, .set (.int .i64 i), .keep, .keep, .keep, .keep, .keep, .keep, .keep, .keep, .keep, .keep, .keep, .keep, .keep, .keep, .drop, .drop, .drop, .drop, .drop, .drop, .drop, .drop, .drop, .drop, .drop, .drop, .drop, .drop, .drop, .drop, .drop, .drop, .drop, .drop, .drop, .drop, .drop, .drop, .drop, .drop, .drop, .drop, .drop, .drop, .drop, .drop, .drop, .drop, .drop]) (fun _ => []) (fun i => 8 - i) 0 ⟨by decide, fun g hg => absurd hg (Nat.not_lt_zero _)⟩ ?_ (MemFits.eq rfl) ?_
    · repeat (first | exact FitsSl.nil | refine FitsSl.any ?_ | refine FitsSl.cons (Fit1.int (by first | rfl | omega)) ?_ | refine FitsSl.cons (Fit1.bool rfl) ?_ | refine FitsSl.cons (Fit1.str rfl) ?_ | refine FitsSl.cons (Fit1.same (by intro h; cases h) (by with_reducible rfl)) ?_ | refine FitsSl.cons Fit1.nil_sl ?_ | refine FitsSl.cons (Fit1.hs rfl) ?_ | refine FitsSl.cons (Fit1.hp rfl rfl) ?_ | refine FitsSl.cons (Fit1.sl rfl) ?_ | refine FitsSl.cons (Fit1.ptr rfl rfl) ?_ | refine FitsSl.cons Fit1.raw ?_)
    (intro i ⟨hi, hib⟩; intro K hK; (conv=>whnf); refine hK _ _ ?_; clear hK K)
    by_cases hi8 : i < 8
    rotate_left
    · have e : i = 8 := by omega
      subst e
      (repeat' (first | (with_reducible first|refine z0 ?_|refine z1 ?_|refine z2 ?_|refine z3 ?_|refine z4 ?_|refine z5 ?_|refine z6 ?_|refine z7 ?_|refine z8 ?_|refine z9 ?_|refine z10 ?_|refine z11 ?_|refine z12 ?_|refine z13 ?_|refine z14 ?_|refine z15 ?_|refine z16 ?_|refine z17 ?_|refine z18 ?_|refine z19 ?_|refine z20 ?_|refine z21 ?_|refine z22 ?_|refine z23 ?_|refine z24 ?_) | (((with_reducible first|refine z25 ?_|refine z26 ?_|refine z27 ?_|refine z28 ?_);intro K hK;(conv=>whnf))) | (with_reducible first|(refine hK _ _ ?_;clear hK K)|(refine hA ?_;clear hA hB A B)|(refine hB ?_;clear hA hB A B)|(refine hK _ ?_;clear hK K)) | ((with_reducible refine z29 ?_);intro A B hA hB;(conv=>whnf)) | (refine z30 (by decide) ?_) | ((first|refine z31 rfl ?_|refine z32 rfl ?_|refine z33 rfl ?_);intro K hK;(conv=>whnf)) | (refine z34 (by kernel_rfl) (by kernel_rfl) ?_) | (((with_reducible first|refine NV.quo ?s ?_|refine NV.rem ?s ?_|refine NV.i64 ?s ?_|refine NV.u32 ?s ?_|refine NV.u8 ?s ?_|refine NV.u64 ?s ?_);case s=>omega)<;>(conv=>whnf)) | ((with_reducible first|refine NV.divk ?_|refine NV.modk ?_|refine NN.lit ?_|refine NN.cast ?_|refine NN.a1 ?_|refine NN.a2 ?_|refine NN.a3 ?_|refine NN.a4 ?_|refine NN.a5 ?_|refine NN.a6 ?_|refine NV.keep ?_|refine NN.keep ?_|refine NS.keep ?_|refine NIf.not_ ?_)<;>(conv=>whnf)) | (((with_reducible refine NH.mk ?s ?_);case s=>(and_intros <;> first | with_reducible rfl | omega | assumption | exact Nat.le_of_ble_eq_true rfl | (simp only [List.length_append, List.length_cons, List.length_nil]; omega) | rfl))<;>(conv=>whnf)) | (((with_reducible refine NIf.decY ?s ?_);case s=>first|with_reducible rfl|assumption|omega)<;>(conv=>whnf)) | (((with_reducible refine NIf.decN ?s ?_);case s=>first|with_reducible rfl|assumption|omega)<;>(conv=>whnf)) | (((with_reducible refine NIf.yes ?s ?_);case s=>first|rfl|assumption)<;>(conv=>whnf)) | (((with_reducible refine NIf.no ?s ?_);case s=>first|rfl|assumption)<;>(conv=>whnf)) | (((with_reducible refine NLd.of (by with_reducible assumption) ?_))<;>(conv=>whnf)) | ((refine NFlat_iff.2 ⟨⟨?s1,?s2⟩,?_⟩;(case s1=>decide +kernel);(case s2=>decide +kernel))<;>(conv=>whnf)) | ((with_reducible first|refine NIf.dec (fun _=>?_) (fun _=>?_)|refine NIf.both (fun _=>?_) (fun _=>?_))<;>(conv=>whnf)) | ((intro _;skip)<;>(conv=>whnf))))
      refine st_round (f + 1) ⟨hlt, fun g hg => ?_⟩ (by omega) ?_ (MemFits.eq rfl)
      · by_cases e : g = f
        · subst e; exact hib
        · exact hok g (by omega)
      · repeat (first | exact FitsSl.nil | refine FitsSl.any ?_ | refine FitsSl.cons (Fit1.int (by first | rfl | omega)) ?_ | refine FitsSl.cons (Fit1.bool rfl) ?_ | refine FitsSl.cons (Fit1.str rfl) ?_ | refine FitsSl.cons (Fit1.same (by intro h; cases h) (by with_reducible rfl)) ?_ | refine FitsSl.cons Fit1.nil_sl ?_ | refine FitsSl.cons (Fit1.hs rfl) ?_ | refine FitsSl.cons (Fit1.hp rfl rfl) ?_ | refine FitsSl.cons (Fit1.sl rfl) ?_ | refine FitsSl.cons (Fit1.ptr rfl rfl) ?_ | refine FitsSl.cons Fit1.raw ?_)
    have b1 := bt_c _ i la.2 (by omega)
    have b2 := bt_c _ i la.1 (by omega)
    have b3 := bt_c _ i lb.2 (by omega)
    have b4 := bt_c _ i lb.1 (by omega)
    have hno : Mt.within a b → Mt.in1 (a.v f) (a.m f) (b.v f) (b.m f) i := fun h => (q.1 h).2 f hlt i hi8
    have hyes : Mt.in1 (a.v f) (a.m f) (b.v f) (b.m f) i → ∀ j, j < i + 1 → Mt.in1 (a.v f) (a.m f) (b.v f) (b.m f) j := fun h j hj => by
      by_cases e : j = i
      · subst e; exact h
      · exact hib j (by omega)
    have t1 := Mt.bt_lt (a.m f) i
    unfold Mt.in1 at hno hyes
    generalize Mt.bt (a.m f) i = t1 at *
    generalize Mt.bt (a.v f) i = t2 at *
    generalize Mt.bt (b.m f) i = t3 at *
    generalize Mt.bt (b.v f) i = t4 at *
    (repeat' (first | (with_reducible first|refine z0 ?_|refine z1 ?_|refine z2 ?_|refine z3 ?_|refine z4 ?_|refine z5 ?_|refine z6 ?_|refine z7 ?_|refine z8 ?_|refine z9 ?_|refine z10 ?_|refine z11 ?_|refine z12 ?_|refine z13 ?_|refine z14 ?_|refine z15 ?_|refine z16 ?_|refine z17 ?_|refine z18 ?_|refine z19 ?_|refine z20 ?_|refine z21 ?_|refine z22 ?_|refine z23 ?_|refine z24 ?_) | (((with_reducible first|refine z25 ?_|refine z26 ?_|refine z27 ?_|refine z28 ?_);intro K hK;(conv=>whnf))) | (with_reducible first|(refine hK _ _ ?_;clear hK K)|(refine hA ?_;clear hA hB A B)|(refine hB ?_;clear hA hB A B)|(refine hK _ ?_;clear hK K)) | ((with_reducible refine z29 ?_);intro A B hA hB;(conv=>whnf)) | (refine z30 (by decide) ?_) | ((first|refine z31 rfl ?_|refine z32 rfl ?_|refine z33 rfl ?_);intro K hK;(conv=>whnf)) | (refine z34 (by kernel_rfl) (by kernel_rfl) ?_) | ((refine nthK.of (hav.1) ?_) <;> (conv=>whnf)) | ((refine nthK.of (hav.2) ?_) <;> (conv=>whnf)) | ((refine nthK.of (hbv.1) ?_) <;> (conv=>whnf)) | ((refine nthK.of (hbv.2) ?_) <;> (conv=>whnf)) | ((with_reducible refine NCallQ.isF 77 ?_); (refine NCallQ.pureEq (b1) ?_; (conv=>whnf))) | ((with_reducible refine NCallQ.isF 77 ?_); (refine NCallQ.pureEq (b2) ?_; (conv=>whnf))) | ((with_reducible refine NCallQ.isF 77 ?_); (refine NCallQ.pureEq (b3) ?_; (conv=>whnf))) | ((with_reducible refine NCallQ.isF 77 ?_); (refine NCallQ.pureEq (b4) ?_; (conv=>whnf))) | (((with_reducible first|refine NV.quo ?s ?_|refine NV.rem ?s ?_|refine NV.i64 ?s ?_|refine NV.u32 ?s ?_|refine NV.u8 ?s ?_|refine NV.u64 ?s ?_);case s=>omega)<;>(conv=>whnf)) | ((with_reducible first|refine NV.divk ?_|refine NV.modk ?_|refine NN.lit ?_|refine NN.cast ?_|refine NN.a1 ?_|refine NN.a2 ?_|refine NN.a3 ?_|refine NN.a4 ?_|refine NN.a5 ?_|refine NN.a6 ?_|refine NV.keep ?_|refine NN.keep ?_|refine NS.keep ?_|refine NIf.not_ ?_)<;>(conv=>whnf)) | (((with_reducible refine NH.mk ?s ?_);case s=>(and_intros <;> first | with_reducible rfl | omega | assumption | exact Nat.le_of_ble_eq_true rfl | (simp only [List.length_append, List.length_cons, List.length_nil]; omega) | rfl))<;>(conv=>whnf)) | (((with_reducible refine NIf.decY ?s ?_);case s=>first|with_reducible rfl|assumption|omega)<;>(conv=>whnf)) | (((with_reducible refine NIf.decN ?s ?_);case s=>first|with_reducible rfl|assumption|omega)<;>(conv=>whnf)) | (((with_reducible refine NIf.yes ?s ?_);case s=>first|rfl|assumption)<;>(conv=>whnf)) | (((with_reducible refine NIf.no ?s ?_);case s=>first|rfl|assumption)<;>(conv=>whnf)) | (((with_reducible refine NLd.of (by with_reducible assumption) ?_))<;>(conv=>whnf)) | ((refine NFlat_iff.2 ⟨⟨?s1,?s2⟩,?_⟩;(case s1=>decide +kernel);(case s2=>decide +kernel))<;>(conv=>whnf)) | ((with_reducible first|refine NIf.dec (fun _=>?_) (fun _=>?_)|refine NIf.both (fun _=>?_) (fun _=>?_))<;>(conv=>whnf)) | ((intro _;skip)<;>(conv=>whnf))))
    all_goals first
      | exact boolF (fun h => by have := hno h; omega)
      | (refine st_round (i + 1) ⟨hi8, hyes (by omega)⟩ (by omega) ?_ (MemFits.eq rfl)
         repeat (first | exact FitsSl.nil | refine FitsSl.any ?_ | refine FitsSl.cons (Fit1.int (by first | rfl | omega)) ?_ | refine FitsSl.cons (Fit1.bool rfl) ?_ | refine FitsSl.cons (Fit1.str rfl) ?_ | refine FitsSl.cons (Fit1.same (by intro h; cases h) (by with_reducible rfl)) ?_ | refine FitsSl.cons Fit1.nil_sl ?_ | refine FitsSl.cons (Fit1.hs rfl) ?_ | refine FitsSl.cons (Fit1.hp rfl rfl) ?_ | refine FitsSl.cons (Fit1.sl rfl) ?_ | refine FitsSl.cons (Fit1.ptr rfl rfl) ?_ | refine FitsSl.cons Fit1.raw ?_)
        )
end Go.Proofs.YtokbckflleaplaaDoor
