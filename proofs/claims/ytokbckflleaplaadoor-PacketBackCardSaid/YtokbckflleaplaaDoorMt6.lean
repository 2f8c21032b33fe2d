/-
  Matches: the chapter's examples; who is hit by both is hit by their meeting.
-/
import Derived.Test.YtokbckflleaplaaDoorMt5
import Derived.Test.YtokbckflleaplaaDoorCard
namespace Go.Proofs.YtokbckflleaplaaDoor
open Go.Sx
set_option maxRecDepth 20000
set_option linter.unusedSimpArgs false
set_option linter.unusedVariables false
def kOf (a b c d : Nat) : Nat → Nat := fun f => match f with | 0 => a | 1 => b | 2 => c | _ => d
theorem hits_b (x : Mt.N) (hx : x.lt) (port : Int) (k : Nat → Nat) (hk : ∀ f, f < 4 → k f < 256) (b : Bool) (hb : decide (Mt.hits x port k) = b) : NCall Tryd.prog 18 [.agg x.toM.av, .int .i64 port, pkAv k] [] fun r _ => r = .bool b :=
  (hits_c x hx port k hk).mono fun r _ h => by rw [h, hb]
theorem in64_lt {x : Mt.N} (hx : x.lt) (hp : Mt.i64 x.p) : x.toM.in64 := ⟨hp, fun f hf => by
  have := hx f hf
  rw [Mt.N.toM_v, Mt.N.toM_m]
  exact ⟨⟨by omega, by omega⟩, by omega, by omega⟩⟩
theorem aw_h1 : NCall Tryd.prog 18 [.agg [.int .i64 (-1), .int .i64 0, .int .i64 3, .int .i64 0, .int .i64 0, .int .i64 0, .int .i64 255, .int .i64 0, .int .i64 0], .int .i64 0, .agg [.int .i64 1, .int .i64 3, .int .i64 0, .int .i64 0]] [] fun r _ => r = .bool true :=
  hits_b ⟨-1, 0, 3, 0, 0, 0, 255, 0, 0⟩ (all4.2 (by decide)) 0 (kOf 1 3 0 0) (all4.2 (by decide)) true (by decide +kernel)
theorem aw_h2 : NCall Tryd.prog 18 [.agg [.int .i64 (-1), .int .i64 0, .int .i64 3, .int .i64 0, .int .i64 0, .int .i64 0, .int .i64 255, .int .i64 0, .int .i64 0], .int .i64 0, .agg [.int .i64 1, .int .i64 2, .int .i64 0, .int .i64 0]] [] fun r _ => r = .bool false :=
  hits_b ⟨-1, 0, 3, 0, 0, 0, 255, 0, 0⟩ (all4.2 (by decide)) 0 (kOf 1 2 0 0) (all4.2 (by decide)) false (by decide +kernel)
theorem aw_h3 : NCall Tryd.prog 18 [.agg [.int .i64 (-1), .int .i64 0, .int .i64 2, .int .i64 0, .int .i64 0, .int .i64 0, .int .i64 2, .int .i64 0, .int .i64 0], .int .i64 5, .agg [.int .i64 0, .int .i64 7, .int .i64 0, .int .i64 0]] [] fun r _ => r = .bool true :=
  hits_b ⟨-1, 0, 2, 0, 0, 0, 2, 0, 0⟩ (all4.2 (by decide)) 5 (kOf 0 7 0 0) (all4.2 (by decide)) true (by decide +kernel)
theorem aw_h4 : NCall Tryd.prog 18 [.agg [.int .i64 (-1), .int .i64 0, .int .i64 2, .int .i64 0, .int .i64 0, .int .i64 0, .int .i64 2, .int .i64 0, .int .i64 0], .int .i64 5, .agg [.int .i64 0, .int .i64 5, .int .i64 0, .int .i64 0]] [] fun r _ => r = .bool false :=
  hits_b ⟨-1, 0, 2, 0, 0, 0, 2, 0, 0⟩ (all4.2 (by decide)) 5 (kOf 0 5 0 0) (all4.2 (by decide)) false (by decide +kernel)
def awN : Mt.N := ⟨-1, 0, 2, 0, 0, 0, 2, 0, 0⟩
theorem awN_ok : awN.ok := ⟨by decide, all4.2 (by
  refine ⟨⟨by decide, fun i h => h⟩, ⟨by decide, fun i h => h⟩, ⟨by decide, fun i h => h⟩, by decide, fun i h => h⟩)⟩
theorem aw_r : NCall Tryd.prog 19 [.agg [.int .i64 (-1), .int .i64 0, .int .i64 2, .int .i64 0, .int .i64 0, .int .i64 0, .int .i64 2, .int .i64 0, .int .i64 0]] [] fun r _ => r = .bool true :=
  (right8_c awN.toM (in64_lt awN_ok.lt ⟨by decide, by decide⟩)).mono fun r _ h => by rw [h, decide_eq_true ((Mt.N.ok_iff _).2 awN_ok)]
theorem aw_t (F : Heap) (hF : TabF F) : NCall Tryd.prog 35 [.agg [.int .i64 (-1), .int .i64 0, .int .i64 2, .int .i64 0, .int .i64 0, .int .i64 0, .int .i64 2, .int .i64 0, .int .i64 0]] [hpB F] fun r m => r = .str [100, 115, 116, 32, 50, 47, 50] ∧ m = [hpB F] :=
  (text_c F hF awN awN_ok).mono fun r _ h => ⟨h.1.trans (by rw [show Mt.text awN = [100, 115, 116, 32, 50, 47, 50] by decide +kernel]), h.2⟩
theorem awake8_c (F : Heap) (hF : TabF F) : NCall Tryd.prog 16 [] [hpB F] fun r m => r = .bool true ∧ m = [hpB F] := by
  refine NCall.fits (K := fun r m => r = .bool true ∧ MemFits m [hpB F]) ?_ fun r m' h => ⟨r, [hpB F], rfl, h.2, h.1, rfl⟩
  refine ncall_of Tryd.func16 rfl (by decide) ?_
  (repeat' (first | (refine z35 (by kernel_rfl) _ rfl ?_) | (refine z36 rfl (by kernel_rfl) ?_; intro K hK; (conv=>whnf)) | (refine z37 rfl (by kernel_rfl) ?_; intro K hK; (conv=>whnf)) | (refine z38 rfl (by kernel_rfl) ?_) | (refine z39 rfl rfl (by kernel_rfl) (by intro h; cases h) ?_) | (refine z40 ?_ ?_; (intro K hK; (conv=>whnf))) | (refine z41 ?_ ?_; (intro K hK; (conv=>whnf))) | exact z42 | (with_reducible first|refine z0 ?_|refine z1 ?_|refine z2 ?_|refine z3 ?_|refine z4 ?_|refine z5 ?_|refine z6 ?_|refine z7 ?_|refine z8 ?_|refine z9 ?_|refine z10 ?_|refine z11 ?_|refine z12 ?_|refine z13 ?_|refine z14 ?_|refine z15 ?_|refine z16 ?_|refine z17 ?_|refine z18 ?_|refine z19 ?_|refine z20 ?_|refine z21 ?_|refine z22 ?_|refine z23 ?_|refine z24 ?_) | (((with_reducible first|refine z25 ?_|refine z26 ?_);intro K hK;(conv=>whnf))) | (with_reducible first|(refine hK _ _ ?_;clear hK K)|(refine hA ?_;clear hA hB A B)|(refine hB ?_;clear hA hB A B)|(refine hK _ ?_;clear hK K)) | ((with_reducible refine z29 ?_);intro A B hA hB;(conv=>whnf)) | (refine z30 (by decide) ?_) | ((first|refine z31 rfl ?_|refine z32 rfl ?_|refine z33 rfl ?_);intro K hK;(conv=>whnf)) | ((with_reducible refine NCall.isF 23 ?_); (refine NCall.pure (any_c) ?_; rintro _ _ rfl; refine ⟨_, rfl, ?_⟩; (conv=>whnf))) | ((with_reducible refine NCall.isF 27 ?_); (refine NCall.pure (of13_c) ?_; rintro _ _ rfl; refine ⟨_, rfl, ?_⟩; (conv=>whnf))) | ((with_reducible refine NCall.isF 18 ?_); (refine NCall.pure (aw_h1) ?_; rintro _ _ rfl; refine ⟨_, rfl, ?_⟩; (conv=>whnf))) | ((with_reducible refine NCall.isF 18 ?_); (refine NCall.pure (aw_h2) ?_; rintro _ _ rfl; refine ⟨_, rfl, ?_⟩; (conv=>whnf))) | ((with_reducible refine NCall.isF 18 ?_); (refine NCall.pure (aw_h3) ?_; rintro _ _ rfl; refine ⟨_, rfl, ?_⟩; (conv=>whnf))) | ((with_reducible refine NCall.isF 18 ?_); (refine NCall.pure (aw_h4) ?_; rintro _ _ rfl; refine ⟨_, rfl, ?_⟩; (conv=>whnf))) | ((with_reducible refine NCall.isF 19 ?_); (refine NCall.pure (aw_r) ?_; rintro _ _ rfl; refine ⟨_, rfl, ?_⟩; (conv=>whnf))) | ((with_reducible refine NCall.isF 35 ?_); (refine NCall.subw [0] _ _ (aw_t F hF) rfl (by decide) rfl ?_; rintro _ _ ⟨rfl, rfl⟩; refine ⟨Nat.le_of_ble_eq_true rfl, _, rfl, ?_⟩; (conv=>whnf))) | (((with_reducible first|refine NV.quo ?s ?_|refine NV.rem ?s ?_|refine NV.i64 ?s ?_|refine NV.u32 ?s ?_|refine NV.u8 ?s ?_|refine NV.u64 ?s ?_);case s=>omega)<;>(conv=>whnf)) | ((with_reducible first|refine NV.divk ?_|refine NV.modk ?_|refine NN.lit ?_|refine NN.cast ?_|refine NN.a1 ?_|refine NN.a2 ?_|refine NN.a3 ?_|refine NN.a4 ?_|refine NN.a5 ?_|refine NN.a6 ?_|refine NV.keep ?_|refine NN.keep ?_|refine NS.keep ?_|refine NIf.not_ ?_)<;>(conv=>whnf)) | (((with_reducible refine NH.mk ?s ?_);case s=>(and_intros <;> first | with_reducible rfl | omega | assumption | exact Nat.le_of_ble_eq_true rfl | (simp only [List.length_append, List.length_cons, List.length_nil]; omega) | rfl))<;>(conv=>whnf)) | (((with_reducible refine NIf.decY ?s ?_);case s=>first|with_reducible rfl|assumption|omega)<;>(conv=>whnf)) | (((with_reducible refine NIf.decN ?s ?_);case s=>first|with_reducible rfl|assumption|omega)<;>(conv=>whnf)) | (((with_reducible refine NIf.yes ?s ?_);case s=>first|rfl|assumption)<;>(conv=>whnf)) | (((with_reducible refine NIf.no ?s ?_);case s=>first|rfl|assumption)<;>(conv=>whnf)) | (((with_reducible refine NLd.of (by with_reducible assumption) ?_))<;>(conv=>whnf)) | ((refine NFlat_iff.2 ⟨⟨?s1,?s2⟩,?_⟩;(case s1=>decide +kernel);(case s2=>decide +kernel))<;>(conv=>whnf)) | ((with_reducible first|refine NIf.dec (fun _=>?_) (fun _=>?_)|refine NIf.both (fun _=>?_) (fun _=>?_))<;>(conv=>whnf)) | ((intro _;skip)<;>(conv=>whnf))))
  exact ⟨rfl, MemFits.drop [_] [_]⟩
theorem refright_t (x : Mt.N) (hx : x.ok) : NCall Tryd.prog 14 [.agg x.toM.av] [] fun r _ => r = .bool true :=
  (refright_c x.toM (in64_lt hx.lt (by have := hx.1; exact ⟨by omega, by omega⟩))).mono fun r _ h => by rw [h, decide_eq_true ((Mt.N.ok_iff _).2 hx)]
theorem right_t (x : Mt.N) (hx : x.ok) : NCall Tryd.prog 19 [.agg x.toM.av] [] fun r _ => r = .bool true :=
  (right8_c x.toM (in64_lt hx.lt (by have := hx.1; exact ⟨by omega, by omega⟩))).mono fun r _ h => by rw [h, decide_eq_true ((Mt.N.ok_iff _).2 hx)]
theorem refright_f (x : Mt.M) (hx : x.in64) (h : ¬ x.ok) : NCall Tryd.prog 14 [.agg x.av] [] fun r _ => r = .bool false :=
  (refright_c x hx).mono fun r _ e => by rw [e, decide_eq_false h]
theorem refpright_f {a b c d : Int} (h : ¬ Pk.ok a b c d) : NCall Tryd.prog 15 [.agg [.int .i64 a, .int .i64 b, .int .i64 c, .int .i64 d]] [] fun r _ => r = .bool false :=
  (refpright_c a b c d).mono fun r _ e => by rw [e, decide_eq_false h]
theorem refpright_t {a b c d : Int} (h : Pk.ok a b c d) : NCall Tryd.prog 15 [.agg [.int .i64 a, .int .i64 b, .int .i64 c, .int .i64 d]] [] fun r _ => r = .bool true :=
  (refpright_c a b c d).mono fun r _ e => by rw [e, decide_eq_true h]
theorem meet_t (a b : Mt.N) (ha : a.lt) (hb : b.lt) (h : Mt.meets a b) : NCall Tryd.prog 17 [.agg a.toM.av, .agg b.toM.av] [] fun r _ => r = .tup [.agg (Mt.meet a b).toM.av, .bool true] :=
  (meet_c a b ha hb).mono fun r _ e => by rw [e, if_pos h, decide_eq_true h]
theorem meet_f (a b : Mt.N) (ha : a.lt) (hb : b.lt) (h : ¬ Mt.meets a b) : NCall Tryd.prog 17 [.agg a.toM.av, .agg b.toM.av] [] fun r _ => r = .tup [mtZ, .bool false] :=
  (meet_c a b ha hb).mono fun r _ e => by rw [e, if_neg h, decide_eq_false h]
theorem within_t (a b : Mt.N) (ha : a.lt) (hb : b.lt) (h : Mt.within a b) : NCall Tryd.prog 20 [.agg a.toM.av, .agg b.toM.av] [] fun r _ => r = .bool true :=
  (within_c a b ha hb).mono fun r _ e => by rw [e, decide_eq_true h]
theorem within_f (a b : Mt.N) (ha : a.lt) (hb : b.lt) (h : ¬ Mt.within a b) : NCall Tryd.prog 20 [.agg a.toM.av, .agg b.toM.av] [] fun r _ => r = .bool false :=
  (within_c a b ha hb).mono fun r _ e => by rw [e, decide_eq_false h]
theorem pk_nat {a b c d : Int} (h : Pk.ok a b c d) : ∃ k0 k1 k2 k3 : Nat, a = k0 ∧ b = k1 ∧ c = k2 ∧ d = k3 ∧ ∀ f, f < 4 → kOf k0 k1 k2 k3 f < 256 := by
  obtain ⟨⟨a0, a1⟩, ⟨b0, b1⟩, ⟨c0, c1⟩, d0, d1⟩ := h
  obtain ⟨k0, rfl⟩ := Int.eq_ofNat_of_zero_le a0
  obtain ⟨k1, rfl⟩ := Int.eq_ofNat_of_zero_le b0
  obtain ⟨k2, rfl⟩ := Int.eq_ofNat_of_zero_le c0
  obtain ⟨k3, rfl⟩ := Int.eq_ofNat_of_zero_le d0
  exact ⟨k0, k1, k2, k3, rfl, rfl, rfl, rfl, all4.2 ⟨by simp only [kOf]; omega, by simp only [kOf]; omega, by simp only [kOf]; omega, by simp only [kOf]; omega⟩⟩
theorem in64_of {p v0 v1 v2 v3 m0 m1 m2 m3 : Int} (h : Mt.i64 p) (h0 : Mt.i64 v0) (h1 : Mt.i64 v1) (h2 : Mt.i64 v2) (h3 : Mt.i64 v3) (k0 : Mt.i64 m0) (k1 : Mt.i64 m1) (k2 : Mt.i64 m2) (k3 : Mt.i64 m3) : (⟨p, v0, v1, v2, v3, m0, m1, m2, m3⟩ : Mt.M).in64 :=
  ⟨h, all4.2 ⟨⟨h0, k0⟩, ⟨h1, k1⟩, ⟨h2, k2⟩, h3, k3⟩⟩
end Go.Proofs.YtokbckflleaplaaDoor
