/-
  MatchWithin: who is within another one hits nothing else.
-/
import Derived.Test.YtokbckflleaplaaDoorMt6
import Derived.Test.YtokbckflleaplaaDoorMt8
import Derived.Test.YtokbckflleaplaaDoorMt9
namespace Go.Proofs.YtokbckflleaplaaDoor
open Go.Sx
set_option maxRecDepth 20000
set_option linter.unusedSimpArgs false
set_option linter.unusedVariables false
set_option linter.unusedVariables false
namespace Mt
theorem within_hits {a b : N} (ha : a.ok) (hb : b.ok) (h : within a b) {port : Int} {k : Nat → Nat} (hh : hits a port k) : hits b port k := by
  have := (both a b ha hb port k).2 ⟨h.1, by rw [h.2]; exact hh⟩
  exact this.2
theorem within_refl (a : N) (ha : a.ok) : within a a := by
  refine ⟨⟨.inl rfl, fun f _ => (alike_iff _ _ _ _).2 fun i _ _ => rfl⟩, ?_⟩
  unfold meet
  simp only [Nat.or_self, Int.max_self]
def anyN : N := ⟨-1, 0, 0, 0, 0, 0, 0, 0, 0⟩
theorem any_ok : anyN.ok := ⟨by decide, all4.2 ⟨⟨by decide, fun i h => by simp [anyN, N.v] at h⟩, ⟨by decide, fun i h => by simp [anyN, N.v] at h⟩, ⟨by decide, fun i h => by simp [anyN, N.v] at h⟩, by decide, fun i h => by simp [anyN, N.v] at h⟩⟩
theorem within_any (a : N) (ha : a.ok) : within a anyN := by
  refine (within_bt a anyN ha any_ok).2 ⟨.inl rfl, fun f hf i hi h => ?_⟩
  have e : anyN.m f = 0 := by unfold N.m anyN; split <;> rfl
  rw [e] at h
  simp [bt] at h
theorem within_anti {a b : N} (h : within a b) (k : within b a) : a = b := by
  rw [← h.2, meet_comm, k.2]
theorem pop_mono (a b : Nat) (h : ∀ i, i < 8 → bt b i = 1 → bt a i = 1) : ∀ k, k ≤ 8 → pop b k ≤ pop a k
  | 0, _ => Nat.le_refl _
  | k + 1, hk => by
    have h1 := pop_mono a b h k (by omega)
    have h2 := h k (by omega)
    have h3 := bt_lt b k
    unfold bt at h2 h3
    unfold pop
    omega
theorem ask_mono {a b : N} (ha : a.ok) (hb : b.ok) (h : within a b) : askTo b 4 ≤ askTo a 4 := by
  obtain ⟨h1, h2⟩ := (within_bt a b ha hb).1 h
  have key : ∀ k, k ≤ 4 → askTo b k ≤ askTo a k := by
    intro k
    induction k with
    | zero =>
      intro _
      unfold askTo
      split
      · omega
      · rename_i hb
        rw [if_neg (by omega)]
        exact Nat.le_refl _
    | succ k ih =>
      intro hk
      have h3 := ih (by omega)
      have h4 := pop_mono (a.m k) (b.m k) (fun i hi hm => (h2 k (by omega) i hi hm).1) 8 (Nat.le_refl _)
      unfold askTo
      omega
  exact key 4 (Nat.le_refl _)
/-- A port that is hit. -/
def hitP (a : N) : Int := if a.p = -1 then 0 else a.p
theorem hits_self (a : N) (ha : a.ok) : hits a (hitP a) (fun f => a.v f) := by
  refine ⟨?_, fun f hf => ?_⟩
  · unfold hitP
    split
    · exact .inl (by assumption)
    · exact .inr rfl
  · unfold hit1; simp
end Mt
theorem hit8_c (x : Mt.N) : NCall Tryd.prog 22 [.agg x.toM.av] [] fun r _ => r = .tup [.int .i64 (Mt.hitP x), .agg [.int .i64 x.v0, .int .i64 x.v1, .int .i64 x.v2, .int .i64 x.v3]] := by
  obtain ⟨p, v0, v1, v2, v3, m0, m1, m2, m3⟩ := x
  refine ncall_of Tryd.func22 rfl (by decide) ?_
  simp only [Mt.hitP, Mt.N.toM, Mt.M.av]
  by_cases h : p = -1
  · rw [if_pos h]
    (repeat' (first | (refine st_free [1] (by kernel_rfl) (by decide +kernel) ?_) | (((with_reducible first|refine st_opF ?s ?_|refine st_opFg ?s ?_);case s=>exact rfl);intro K hK;(conv=>whnf)) | (with_reducible first|refine st_opFs ?_|refine st_opF0 ?_|refine st_stF0 ?_) | ((with_reducible refine st_stF ?_);intro K hK;(conv=>whnf)) | ((with_reducible refine st_stFn ?s ?_);case s=>exact rfl) | (with_reducible first|refine z0 ?_|refine z1 ?_|refine z2 ?_|refine z3 ?_|refine z4 ?_|refine z5 ?_|refine z6 ?_|refine z7 ?_|refine z8 ?_|refine z9 ?_|refine z10 ?_|refine z11 ?_|refine z12 ?_|refine z13 ?_|refine z14 ?_|refine z15 ?_|refine z16 ?_|refine z17 ?_|refine z18 ?_|refine z19 ?_|refine z20 ?_|refine z21 ?_|refine z22 ?_|refine z23 ?_|refine z24 ?_) | (((with_reducible first|refine z25 ?_|refine z26 ?_|refine z27 ?_|refine z28 ?_);intro K hK;(conv=>whnf))) | (with_reducible first|(refine hK _ _ ?_;clear hK K)|(refine hA ?_;clear hA hB A B)|(refine hB ?_;clear hA hB A B)|(refine hK _ ?_;clear hK K)) | ((with_reducible refine z29 ?_);intro A B hA hB;(conv=>whnf)) | (refine z30 (by decide) ?_) | ((first|refine z31 rfl ?_|refine z32 rfl ?_|refine z33 rfl ?_);intro K hK;(conv=>whnf)) | (refine z34 (by kernel_rfl) (by kernel_rfl) ?_) | (((with_reducible first|refine NV.quo ?s ?_|refine NV.rem ?s ?_|refine NV.i64 ?s ?_|refine NV.u32 ?s ?_|refine NV.u8 ?s ?_|refine NV.u64 ?s ?_);case s=>omega)<;>(conv=>whnf)) | ((with_reducible first|refine NV.divk ?_|refine NV.modk ?_|refine NN.lit ?_|refine NN.cast ?_|refine NN.a1 ?_|refine NN.a2 ?_|refine NN.a3 ?_|refine NN.a4 ?_|refine NN.a5 ?_|refine NN.a6 ?_|refine NV.keep ?_|refine NN.keep ?_|refine NS.keep ?_|refine NIf.not_ ?_)<;>(conv=>whnf)) | (((with_reducible refine NH.mk ?s ?_);case s=>(and_intros <;> first | with_reducible rfl | omega | assumption | exact Nat.le_of_ble_eq_true rfl | (simp only [List.length_append, List.length_cons, List.length_nil]; omega) | rfl))<;>(conv=>whnf)) | (((with_reducible refine NIf.decY ?s ?_);case s=>first|with_reducible rfl|assumption|omega)<;>(conv=>whnf)) | (((with_reducible refine NIf.decN ?s ?_);case s=>first|with_reducible rfl|assumption|omega)<;>(conv=>whnf)) | (((with_reducible refine NIf.yes ?s ?_);case s=>first|rfl|assumption)<;>(conv=>whnf)) | (((with_reducible refine NIf.no ?s ?_);case s=>first|rfl|assumption)<;>(conv=>whnf)) | (((with_reducible refine NLd.of (by with_reducible assumption) ?_))<;>(conv=>whnf)) | ((refine NFlat_iff.2 ⟨⟨?s1,?s2⟩,?_⟩;(case s1=>decide +kernel);(case s2=>decide +kernel))<;>(conv=>whnf)) | ((with_reducible first|refine NIf.dec (fun _=>?_) (fun _=>?_)|refine NIf.both (fun _=>?_) (fun _=>?_))<;>(conv=>whnf)) | ((intro _;skip)<;>(conv=>whnf))))
    rfl
  · rw [if_neg h]
    (repeat' (first | (refine st_free [1] (by kernel_rfl) (by decide +kernel) ?_) | (((with_reducible first|refine st_opF ?s ?_|refine st_opFg ?s ?_);case s=>exact rfl);intro K hK;(conv=>whnf)) | (with_reducible first|refine st_opFs ?_|refine st_opF0 ?_|refine st_stF0 ?_) | ((with_reducible refine st_stF ?_);intro K hK;(conv=>whnf)) | ((with_reducible refine st_stFn ?s ?_);case s=>exact rfl) | (with_reducible first|refine z0 ?_|refine z1 ?_|refine z2 ?_|refine z3 ?_|refine z4 ?_|refine z5 ?_|refine z6 ?_|refine z7 ?_|refine z8 ?_|refine z9 ?_|refine z10 ?_|refine z11 ?_|refine z12 ?_|refine z13 ?_|refine z14 ?_|refine z15 ?_|refine z16 ?_|refine z17 ?_|refine z18 ?_|refine z19 ?_|refine z20 ?_|refine z21 ?_|refine z22 ?_|refine z23 ?_|refine z24 ?_) | (((with_reducible first|refine z25 ?_|refine z26 ?_|refine z27 ?_|refine z28 ?_);intro K hK;(conv=>whnf))) | (with_reducible first|(refine hK _ _ ?_;clear hK K)|(refine hA ?_;clear hA hB A B)|(refine hB ?_;clear hA hB A B)|(refine hK _ ?_;clear hK K)) | ((with_reducible refine z29 ?_);intro A B hA hB;(conv=>whnf)) | (refine z30 (by decide) ?_) | ((first|refine z31 rfl ?_|refine z32 rfl ?_|refine z33 rfl ?_);intro K hK;(conv=>whnf)) | (refine z34 (by kernel_rfl) (by kernel_rfl) ?_) | (((with_reducible first|refine NV.quo ?s ?_|refine NV.rem ?s ?_|refine NV.i64 ?s ?_|refine NV.u32 ?s ?_|refine NV.u8 ?s ?_|refine NV.u64 ?s ?_);case s=>omega)<;>(conv=>whnf)) | ((with_reducible first|refine NV.divk ?_|refine NV.modk ?_|refine NN.lit ?_|refine NN.cast ?_|refine NN.a1 ?_|refine NN.a2 ?_|refine NN.a3 ?_|refine NN.a4 ?_|refine NN.a5 ?_|refine NN.a6 ?_|refine NV.keep ?_|refine NN.keep ?_|refine NS.keep ?_|refine NIf.not_ ?_)<;>(conv=>whnf)) | (((with_reducible refine NH.mk ?s ?_);case s=>(and_intros <;> first | with_reducible rfl | omega | assumption | exact Nat.le_of_ble_eq_true rfl | (simp only [List.length_append, List.length_cons, List.length_nil]; omega) | rfl))<;>(conv=>whnf)) | (((with_reducible refine NIf.decY ?s ?_);case s=>first|with_reducible rfl|assumption|omega)<;>(conv=>whnf)) | (((with_reducible refine NIf.decN ?s ?_);case s=>first|with_reducible rfl|assumption|omega)<;>(conv=>whnf)) | (((with_reducible refine NIf.yes ?s ?_);case s=>first|rfl|assumption)<;>(conv=>whnf)) | (((with_reducible refine NIf.no ?s ?_);case s=>first|rfl|assumption)<;>(conv=>whnf)) | (((with_reducible refine NLd.of (by with_reducible assumption) ?_))<;>(conv=>whnf)) | ((refine NFlat_iff.2 ⟨⟨?s1,?s2⟩,?_⟩;(case s1=>decide +kernel);(case s2=>decide +kernel))<;>(conv=>whnf)) | ((with_reducible first|refine NIf.dec (fun _=>?_) (fun _=>?_)|refine NIf.both (fun _=>?_) (fun _=>?_))<;>(conv=>whnf)) | ((intro _;skip)<;>(conv=>whnf))))
    rfl
set_option maxHeartbeats 8000000 in
theorem mw_bad (F : Heap) (hF : TabF F) (a b : Mt.M) (port p0 p1 p2 p3 : Int) (ha : a.in64) (hb : b.in64) (h : ¬ (a.ok ∧ b.ok ∧ Pk.ok p0 p1 p2 p3)) :
    NCall Tryd.prog 4 [.agg a.av, .agg b.av, .int .i64 port, .agg [.int .i64 p0, .int .i64 p1, .int .i64 p2, .int .i64 p3]] [hpB F] fun r _ => r = .bool true := by
  refine ncall_of Tryd.func4 rfl (by decide) ?_
  by_cases h1 : a.ok
  rotate_left
  · have ra := refright_f a ha h1
    obtain ⟨p, v0, v1, v2, v3, m0, m1, m2, m3⟩ := a
    obtain ⟨p', w0, w1, w2, w3, n0, n1, n2, n3⟩ := b
    simp only [Mt.M.av] at ra ⊢
    (repeat' (first | (refine z34 (by kernel_rfl) (by decide +kernel) ?_) | (refine z35 (by kernel_rfl) _ rfl ?_) | (refine z36 rfl (by kernel_rfl) ?_; intro K hK; (conv=>whnf)) | (refine z37 rfl (by kernel_rfl) ?_; intro K hK; (conv=>whnf)) | (refine z38 rfl (by kernel_rfl) ?_) | (refine z39 rfl rfl (by kernel_rfl) (by intro h; cases h) ?_) | (refine z40 ?_ ?_; (intro K hK; (conv=>whnf))) | (refine z41 ?_ ?_; (intro K hK; (conv=>whnf))) | exact z42 | (with_reducible first|refine z0 ?_|refine z1 ?_|refine z2 ?_|refine z3 ?_|refine z4 ?_|refine z5 ?_|refine z6 ?_|refine z7 ?_|refine z8 ?_|refine z9 ?_|refine z10 ?_|refine z11 ?_|refine z12 ?_|refine z13 ?_|refine z14 ?_|refine z15 ?_|refine z16 ?_|refine z17 ?_|refine z18 ?_|refine z19 ?_|refine z20 ?_|refine z21 ?_|refine z22 ?_|refine z23 ?_|refine z24 ?_) | (((with_reducible first|refine z25 ?_|refine z26 ?_|refine z27 ?_|refine z28 ?_);intro K hK;(conv=>whnf))) | (with_reducible first|(refine hK _ _ ?_;clear hK K)|(refine hA ?_;clear hA hB A B)|(refine hB ?_;clear hA hB A B)|(refine hK _ ?_;clear hK K)) | ((with_reducible refine z29 ?_);intro A B hA hB;(conv=>whnf)) | (refine z30 (by decide) ?_) | ((first|refine z31 rfl ?_|refine z32 rfl ?_|refine z33 rfl ?_);intro K hK;(conv=>whnf)) | ((with_reducible refine NCall.isF 14 ?_); (refine NCall.pure (ra) ?_; rintro _ _ rfl; refine ⟨_, rfl, ?_⟩; (conv=>whnf))) | ((with_reducible refine NCall.isF 16 ?_); (refine NCall.subw [0] _ _ (awake8_c F hF) rfl (by decide) rfl ?_; rintro _ _ ⟨rfl, rfl⟩; refine ⟨Nat.le_of_ble_eq_true rfl, _, rfl, ?_⟩; (conv=>whnf))) | ((with_reducible refine NCallQ.isF 14 ?_); (refine NCallQ.pureEq (ra) ?_; (conv=>whnf))) | ((with_reducible refine NCallQ.isF 16 ?_); (refine NCallQ.subEq [0] _ _ (awake8_c F hF) rfl (by decide) rfl rfl ?_; (conv=>whnf))) | (((with_reducible first|refine NV.quo ?s ?_|refine NV.rem ?s ?_|refine NV.i64 ?s ?_|refine NV.u32 ?s ?_|refine NV.u8 ?s ?_|refine NV.u64 ?s ?_);case s=>omega)<;>(conv=>whnf)) | ((with_reducible first|refine NV.divk ?_|refine NV.modk ?_|refine NN.lit ?_|refine NN.cast ?_|refine NN.a1 ?_|refine NN.a2 ?_|refine NN.a3 ?_|refine NN.a4 ?_|refine NN.a5 ?_|refine NN.a6 ?_|refine NV.keep ?_|refine NN.keep ?_|refine NS.keep ?_|refine NIf.not_ ?_)<;>(conv=>whnf)) | (((with_reducible refine NH.mk ?s ?_);case s=>(and_intros <;> first | with_reducible rfl | omega | assumption | exact Nat.le_of_ble_eq_true rfl | (simp only [List.length_append, List.length_cons, List.length_nil]; omega) | rfl))<;>(conv=>whnf)) | (((with_reducible refine NIf.decY ?s ?_);case s=>first|with_reducible rfl|assumption|omega)<;>(conv=>whnf)) | (((with_reducible refine NIf.decN ?s ?_);case s=>first|with_reducible rfl|assumption|omega)<;>(conv=>whnf)) | (((with_reducible refine NIf.yes ?s ?_);case s=>first|rfl|assumption)<;>(conv=>whnf)) | (((with_reducible refine NIf.no ?s ?_);case s=>first|rfl|assumption)<;>(conv=>whnf)) | (((with_reducible refine NLd.of (by with_reducible assumption) ?_))<;>(conv=>whnf)) | ((refine NFlat_iff.2 ⟨⟨?s1,?s2⟩,?_⟩;(case s1=>decide +kernel);(case s2=>decide +kernel))<;>(conv=>whnf)) | ((with_reducible first|refine NIf.dec (fun _=>?_) (fun _=>?_)|refine NIf.both (fun _=>?_) (fun _=>?_))<;>(conv=>whnf)) | ((intro _;skip)<;>(conv=>whnf))))
    all_goals rfl
  have ra : NCall Tryd.prog 14 [.agg a.av] [] fun r _ => r = .bool true := (refright_c a ha).mono fun r _ e => by rw [e, decide_eq_true h1]
  by_cases h2 : b.ok
  rotate_left
  · have rb := refright_f b hb h2
    obtain ⟨p, v0, v1, v2, v3, m0, m1, m2, m3⟩ := a
    obtain ⟨p', w0, w1, w2, w3, n0, n1, n2, n3⟩ := b
    simp only [Mt.M.av] at ra rb ⊢
    (repeat' (first | (refine z34 (by kernel_rfl) (by decide +kernel) ?_) | (refine z35 (by kernel_rfl) _ rfl ?_) | (refine z36 rfl (by kernel_rfl) ?_; intro K hK; (conv=>whnf)) | (refine z37 rfl (by kernel_rfl) ?_; intro K hK; (conv=>whnf)) | (refine z38 rfl (by kernel_rfl) ?_) | (refine z39 rfl rfl (by kernel_rfl) (by intro h; cases h) ?_) | (refine z40 ?_ ?_; (intro K hK; (conv=>whnf))) | (refine z41 ?_ ?_; (intro K hK; (conv=>whnf))) | exact z42 | (with_reducible first|refine z0 ?_|refine z1 ?_|refine z2 ?_|refine z3 ?_|refine z4 ?_|refine z5 ?_|refine z6 ?_|refine z7 ?_|refine z8 ?_|refine z9 ?_|refine z10 ?_|refine z11 ?_|refine z12 ?_|refine z13 ?_|refine z14 ?_|refine z15 ?_|refine z16 ?_|refine z17 ?_|refine z18 ?_|refine z19 ?_|refine z20 ?_|refine z21 ?_|refine z22 ?_|refine z23 ?_|refine z24 ?_) | (((with_reducible first|refine z25 ?_|refine z26 ?_|refine z27 ?_|refine z28 ?_);intro K hK;(conv=>whnf))) | (with_reducible first|(refine hK _ _ ?_;clear hK K)|(refine hA ?_;clear hA hB A B)|(refine hB ?_;clear hA hB A B)|(refine hK _ ?_;clear hK K)) | ((with_reducible refine z29 ?_);intro A B hA hB;(conv=>whnf)) | (refine z30 (by decide) ?_) | ((first|refine z31 rfl ?_|refine z32 rfl ?_|refine z33 rfl ?_);intro K hK;(conv=>whnf)) | ((with_reducible refine NCall.isF 14 ?_); (refine NCall.pure (ra) ?_; rintro _ _ rfl; refine ⟨_, rfl, ?_⟩; (conv=>whnf))) | ((with_reducible refine NCall.isF 14 ?_); (refine NCall.pure (rb) ?_; rintro _ _ rfl; refine ⟨_, rfl, ?_⟩; (conv=>whnf))) | ((with_reducible refine NCall.isF 16 ?_); (refine NCall.subw [0] _ _ (awake8_c F hF) rfl (by decide) rfl ?_; rintro _ _ ⟨rfl, rfl⟩; refine ⟨Nat.le_of_ble_eq_true rfl, _, rfl, ?_⟩; (conv=>whnf))) | ((with_reducible refine NCallQ.isF 14 ?_); (refine NCallQ.pureEq (ra) ?_; (conv=>whnf))) | ((with_reducible refine NCallQ.isF 14 ?_); (refine NCallQ.pureEq (rb) ?_; (conv=>whnf))) | ((with_reducible refine NCallQ.isF 16 ?_); (refine NCallQ.subEq [0] _ _ (awake8_c F hF) rfl (by decide) rfl rfl ?_; (conv=>whnf))) | (((with_reducible first|refine NV.quo ?s ?_|refine NV.rem ?s ?_|refine NV.i64 ?s ?_|refine NV.u32 ?s ?_|refine NV.u8 ?s ?_|refine NV.u64 ?s ?_);case s=>omega)<;>(conv=>whnf)) | ((with_reducible first|refine NV.divk ?_|refine NV.modk ?_|refine NN.lit ?_|refine NN.cast ?_|refine NN.a1 ?_|refine NN.a2 ?_|refine NN.a3 ?_|refine NN.a4 ?_|refine NN.a5 ?_|refine NN.a6 ?_|refine NV.keep ?_|refine NN.keep ?_|refine NS.keep ?_|refine NIf.not_ ?_)<;>(conv=>whnf)) | (((with_reducible refine NH.mk ?s ?_);case s=>(and_intros <;> first | with_reducible rfl | omega | assumption | exact Nat.le_of_ble_eq_true rfl | (simp only [List.length_append, List.length_cons, List.length_nil]; omega) | rfl))<;>(conv=>whnf)) | (((with_reducible refine NIf.decY ?s ?_);case s=>first|with_reducible rfl|assumption|omega)<;>(conv=>whnf)) | (((with_reducible refine NIf.decN ?s ?_);case s=>first|with_reducible rfl|assumption|omega)<;>(conv=>whnf)) | (((with_reducible refine NIf.yes ?s ?_);case s=>first|rfl|assumption)<;>(conv=>whnf)) | (((with_reducible refine NIf.no ?s ?_);case s=>first|rfl|assumption)<;>(conv=>whnf)) | (((with_reducible refine NLd.of (by with_reducible assumption) ?_))<;>(conv=>whnf)) | ((refine NFlat_iff.2 ⟨⟨?s1,?s2⟩,?_⟩;(case s1=>decide +kernel);(case s2=>decide +kernel))<;>(conv=>whnf)) | ((with_reducible first|refine NIf.dec (fun _=>?_) (fun _=>?_)|refine NIf.both (fun _=>?_) (fun _=>?_))<;>(conv=>whnf)) | ((intro _;skip)<;>(conv=>whnf))))
    all_goals rfl
  have rb : NCall Tryd.prog 14 [.agg b.av] [] fun r _ => r = .bool true := (refright_c b hb).mono fun r _ e => by rw [e, decide_eq_true h2]
  have rp := refpright_f (fun h3 => h ⟨h1, h2, h3⟩)
  obtain ⟨p, v0, v1, v2, v3, m0, m1, m2, m3⟩ := a
  obtain ⟨p', w0, w1, w2, w3, n0, n1, n2, n3⟩ := b
  simp only [Mt.M.av] at ra rb ⊢
  (repeat' (first | (refine z34 (by kernel_rfl) (by decide +kernel) ?_) | (refine z35 (by kernel_rfl) _ rfl ?_) | (refine z36 rfl (by kernel_rfl) ?_; intro K hK; (conv=>whnf)) | (refine z37 rfl (by kernel_rfl) ?_; intro K hK; (conv=>whnf)) | (refine z38 rfl (by kernel_rfl) ?_) | (refine z39 rfl rfl (by kernel_rfl) (by intro h; cases h) ?_) | (refine z40 ?_ ?_; (intro K hK; (conv=>whnf))) | (refine z41 ?_ ?_; (intro K hK; (conv=>whnf))) | exact z42 | (with_reducible first|refine z0 ?_|refine z1 ?_|refine z2 ?_|refine z3 ?_|refine z4 ?_|refine z5 ?_|refine z6 ?_|refine z7 ?_|refine z8 ?_|refine z9 ?_|refine z10 ?_|refine z11 ?_|refine z12 ?_|refine z13 ?_|refine z14 ?_|refine z15 ?_|refine z16 ?_|refine z17 ?_|refine z18 ?_|refine z19 ?_|refine z20 ?_|refine z21 ?_|refine z22 ?_|refine z23 ?_|refine z24 ?_) | (((with_reducible first|refine z25 ?_|refine z26 ?_|refine z27 ?_|refine z28 ?_);intro K hK;(conv=>whnf))) | (with_reducible first|(refine hK _ _ ?_;clear hK K)|(refine hA ?_;clear hA hB A B)|(refine hB ?_;clear hA hB A B)|(refine hK _ ?_;clear hK K)) | ((with_reducible refine z29 ?_);intro A B hA hB;(conv=>whnf)) | (refine z30 (by decide) ?_) | ((first|refine z31 rfl ?_|refine z32 rfl ?_|refine z33 rfl ?_);intro K hK;(conv=>whnf)) | ((with_reducible refine NCall.isF 14 ?_); (refine NCall.pure (ra) ?_; rintro _ _ rfl; refine ⟨_, rfl, ?_⟩; (conv=>whnf))) | ((with_reducible refine NCall.isF 14 ?_); (refine NCall.pure (rb) ?_; rintro _ _ rfl; refine ⟨_, rfl, ?_⟩; (conv=>whnf))) | ((with_reducible refine NCall.isF 15 ?_); (refine NCall.pure (rp) ?_; rintro _ _ rfl; refine ⟨_, rfl, ?_⟩; (conv=>whnf))) | ((with_reducible refine NCall.isF 16 ?_); (refine NCall.subw [0] _ _ (awake8_c F hF) rfl (by decide) rfl ?_; rintro _ _ ⟨rfl, rfl⟩; refine ⟨Nat.le_of_ble_eq_true rfl, _, rfl, ?_⟩; (conv=>whnf))) | ((with_reducible refine NCallQ.isF 14 ?_); (refine NCallQ.pureEq (ra) ?_; (conv=>whnf))) | ((with_reducible refine NCallQ.isF 14 ?_); (refine NCallQ.pureEq (rb) ?_; (conv=>whnf))) | ((with_reducible refine NCallQ.isF 15 ?_); (refine NCallQ.pureEq (rp) ?_; (conv=>whnf))) | ((with_reducible refine NCallQ.isF 16 ?_); (refine NCallQ.subEq [0] _ _ (awake8_c F hF) rfl (by decide) rfl rfl ?_; (conv=>whnf))) | (((with_reducible first|refine NV.quo ?s ?_|refine NV.rem ?s ?_|refine NV.i64 ?s ?_|refine NV.u32 ?s ?_|refine NV.u8 ?s ?_|refine NV.u64 ?s ?_);case s=>omega)<;>(conv=>whnf)) | ((with_reducible first|refine NV.divk ?_|refine NV.modk ?_|refine NN.lit ?_|refine NN.cast ?_|refine NN.a1 ?_|refine NN.a2 ?_|refine NN.a3 ?_|refine NN.a4 ?_|refine NN.a5 ?_|refine NN.a6 ?_|refine NV.keep ?_|refine NN.keep ?_|refine NS.keep ?_|refine NIf.not_ ?_)<;>(conv=>whnf)) | (((with_reducible refine NH.mk ?s ?_);case s=>(and_intros <;> first | with_reducible rfl | omega | assumption | exact Nat.le_of_ble_eq_true rfl | (simp only [List.length_append, List.length_cons, List.length_nil]; omega) | rfl))<;>(conv=>whnf)) | (((with_reducible refine NIf.decY ?s ?_);case s=>first|with_reducible rfl|assumption|omega)<;>(conv=>whnf)) | (((with_reducible refine NIf.decN ?s ?_);case s=>first|with_reducible rfl|assumption|omega)<;>(conv=>whnf)) | (((with_reducible refine NIf.yes ?s ?_);case s=>first|rfl|assumption)<;>(conv=>whnf)) | (((with_reducible refine NIf.no ?s ?_);case s=>first|rfl|assumption)<;>(conv=>whnf)) | (((with_reducible refine NLd.of (by with_reducible assumption) ?_))<;>(conv=>whnf)) | ((refine NFlat_iff.2 ⟨⟨?s1,?s2⟩,?_⟩;(case s1=>decide +kernel);(case s2=>decide +kernel))<;>(conv=>whnf)) | ((with_reducible first|refine NIf.dec (fun _=>?_) (fun _=>?_)|refine NIf.both (fun _=>?_) (fun _=>?_))<;>(conv=>whnf)) | ((intro _;skip)<;>(conv=>whnf))))
  all_goals rfl
set_option maxHeartbeats 8000000 in
theorem mw_ne (F : Heap) (hF : TabF F) (x y : Mt.N) (hx : x.ok) (hy : y.ok) (port : Int) (k0 k1 k2 k3 : Nat) (hk : ∀ f, f < 4 → kOf k0 k1 k2 k3 f < 256) (h3 : Pk.ok k0 k1 k2 k3) (hw : Mt.within x y) (hxy : x ≠ y) :
    NCall Tryd.prog 4 [.agg x.toM.av, .agg y.toM.av, .int .i64 port, .agg [.int .i64 k0, .int .i64 k1, .int .i64 k2, .int .i64 k3]] [hpB F] fun r _ => r = .bool true := by
  refine ncall_of Tryd.func4 rfl (by decide) ?_
  have ra := refright_t x hx
  have rb := refright_t y hy
  have rp := refpright_t h3
  have lx := hx.lt
  have ly := hy.lt
  have hv : ∀ f, f < 4 → x.v f < 256 := fun f hf => (lx f hf).1
  have s1 := hits_b x lx (Mt.hitP x) (fun f => x.v f) hv true (decide_eq_true (Mt.hits_self x hx))
  have s2 := hit8_c x
  have s3 := within_t x x lx lx (Mt.within_refl x hx)
  have s4 := within_t x Mt.anyN lx Mt.any_ok.lt (Mt.within_any x hx)
  have a1 := asked_c x lx
  have a2 := asked_c y ly
  have l1 := Mt.askTo_le x 4
  have l2 := Mt.askTo_le y 4
  generalize q1 : decide (Mt.hits x port (kOf k0 k1 k2 k3)) = t1
  generalize q2 : decide (Mt.hits y port (kOf k0 k1 k2 k3)) = t2
  have c1 := hits_b x lx port _ hk t1 q1
  have c2 := hits_b y ly port _ hk t2 q2
  have w1 := within_t x y lx ly hw
  have key : t1 = true → t2 = true := by
    rintro rfl
    rw [← q2]
    exact decide_eq_true (Mt.within_hits hx hy hw (of_decide_eq_true q1))
  have s5 := hits_b y ly (Mt.hitP x) (fun f => x.v f) hv true (decide_eq_true (Mt.within_hits hx hy hw (Mt.hits_self x hx)))
  have hask := Mt.ask_mono hx hy hw
  generalize Mt.askTo x 4 = n1 at *
  generalize Mt.askTo y 4 = n2 at *
  have w2 := within_f y x ly lx (fun h => hxy (Mt.within_anti hw h))
  clear q1 q2 hw
  clear hx hy lx ly hv h3
  generalize Mt.hitP x = hp at *
  obtain ⟨p, v0, v1, v2, v3, u0, u1, u2, u3⟩ := x
  obtain ⟨p', g0, g1, g2, g3, n0, n1, n2, n3⟩ := y
  have hnb : (decide (p = p') && (decide ((v0 : Int) = g0) && (decide ((v1 : Int) = g1) && (decide ((v2 : Int) = g2) && (decide ((v3 : Int) = g3) && (decide ((u0 : Int) = n0) && (decide ((u1 : Int) = n1) && (decide ((u2 : Int) = n2) && (decide ((u3 : Int) = n3) && true))))))))) = false := by
    refine Bool.eq_false_iff.2 fun h => hxy ?_
    simp only [Bool.and_eq_true, decide_eq_true_eq, Int.natCast_inj] at h
    obtain ⟨rfl, rfl, rfl, rfl, rfl, rfl, rfl, rfl, rfl, _⟩ := h
    rfl
  clear hxy
  simp only [Mt.N.toM, Mt.M.av, pkAv, kOf, Mt.N.v, Mt.anyN] at *
  cases t1 <;> cases t2 <;> first | (exfalso; simp at key; done) | skip
  all_goals (repeat' (first | (refine z34 (by kernel_rfl) (by decide +kernel) ?_) | (refine z35 (by kernel_rfl) _ rfl ?_) | (refine z36 rfl (by kernel_rfl) ?_; intro K hK; (conv=>whnf)) | (refine z37 rfl (by kernel_rfl) ?_; intro K hK; (conv=>whnf)) | (refine z38 rfl (by kernel_rfl) ?_) | (refine z39 rfl rfl (by kernel_rfl) (by intro h; cases h) ?_) | (refine z40 ?_ ?_; (intro K hK; (conv=>whnf))) | (refine z41 ?_ ?_; (intro K hK; (conv=>whnf))) | exact z42 | (with_reducible first|refine z0 ?_|refine z1 ?_|refine z2 ?_|refine z3 ?_|refine z4 ?_|refine z5 ?_|refine z6 ?_|refine z7 ?_|refine z8 ?_|refine z9 ?_|refine z10 ?_|refine z11 ?_|refine z12 ?_|refine z13 ?_|refine z14 ?_|refine z15 ?_|refine z16 ?_|refine z17 ?_|refine z18 ?_|refine z19 ?_|refine z20 ?_|refine z21 ?_|refine z22 ?_|refine z23 ?_|refine z24 ?_) | (((with_reducible first|refine z25 ?_|refine z26 ?_|refine z27 ?_|refine z28 ?_);intro K hK;(conv=>whnf))) | (with_reducible first|(refine hK _ _ ?_;clear hK K)|(refine hA ?_;clear hA hB A B)|(refine hB ?_;clear hA hB A B)|(refine hK _ ?_;clear hK K)) | ((with_reducible refine z29 ?_);intro A B hA hB;(conv=>whnf)) | (refine z30 (by decide) ?_) | ((first|refine z31 rfl ?_|refine z32 rfl ?_|refine z33 rfl ?_);intro K hK;(conv=>whnf)) | (((with_reducible refine NIf.yes ?s ?_);case s=>((rw [hnb]; rfl)))<;>(conv=>whnf)) | (((with_reducible refine NIf.no ?s ?_);case s=>((rw [hnb]; rfl)))<;>(conv=>whnf)) | (((with_reducible first|refine NIf.yes ?s ?_);case s=>(simp ;done))<;>(conv=>whnf)) | (((with_reducible first|refine NIf.no ?s ?_);case s=>(simp ;done))<;>(conv=>whnf)) | ((with_reducible refine NCall.isF 14 ?_); (refine NCall.pure (ra) ?_; rintro _ _ rfl; refine ⟨_, rfl, ?_⟩; (conv=>whnf))) | ((with_reducible refine NCall.isF 14 ?_); (refine NCall.pure (rb) ?_; rintro _ _ rfl; refine ⟨_, rfl, ?_⟩; (conv=>whnf))) | ((with_reducible refine NCall.isF 15 ?_); (refine NCall.pure (rp) ?_; rintro _ _ rfl; refine ⟨_, rfl, ?_⟩; (conv=>whnf))) | ((with_reducible refine NCall.isF 18 ?_); (refine NCall.pure (c1) ?_; rintro _ _ rfl; refine ⟨_, rfl, ?_⟩; (conv=>whnf))) | ((with_reducible refine NCall.isF 18 ?_); (refine NCall.pure (c2) ?_; rintro _ _ rfl; refine ⟨_, rfl, ?_⟩; (conv=>whnf))) | ((with_reducible refine NCall.isF 18 ?_); (refine NCall.pure (s1) ?_; rintro _ _ rfl; refine ⟨_, rfl, ?_⟩; (conv=>whnf))) | ((with_reducible refine NCall.isF 18 ?_); (refine NCall.pure (s5) ?_; rintro _ _ rfl; refine ⟨_, rfl, ?_⟩; (conv=>whnf))) | ((with_reducible refine NCall.isF 20 ?_); (refine NCall.pure (w1) ?_; rintro _ _ rfl; refine ⟨_, rfl, ?_⟩; (conv=>whnf))) | ((with_reducible refine NCall.isF 20 ?_); (refine NCall.pure (w2) ?_; rintro _ _ rfl; refine ⟨_, rfl, ?_⟩; (conv=>whnf))) | ((with_reducible refine NCall.isF 20 ?_); (refine NCall.pure (s3) ?_; rintro _ _ rfl; refine ⟨_, rfl, ?_⟩; (conv=>whnf))) | ((with_reducible refine NCall.isF 20 ?_); (refine NCall.pure (s4) ?_; rintro _ _ rfl; refine ⟨_, rfl, ?_⟩; (conv=>whnf))) | ((with_reducible refine NCall.isF 23 ?_); (refine NCall.pure (any_c) ?_; rintro _ _ rfl; refine ⟨_, rfl, ?_⟩; (conv=>whnf))) | ((with_reducible refine NCall.isF 21 ?_); (refine NCall.pure (a1) ?_; rintro _ _ rfl; refine ⟨_, rfl, ?_⟩; (conv=>whnf))) | ((with_reducible refine NCall.isF 21 ?_); (refine NCall.pure (a2) ?_; rintro _ _ rfl; refine ⟨_, rfl, ?_⟩; (conv=>whnf))) | ((with_reducible refine NCall.isF 22 ?_); (refine NCall.pure (s2) ?_; rintro _ _ rfl; refine ⟨_, rfl, ?_⟩; (conv=>whnf))) | ((with_reducible refine NCall.isF 16 ?_); (refine NCall.subw [0] _ _ (awake8_c F hF) rfl (by decide) rfl ?_; rintro _ _ ⟨rfl, rfl⟩; refine ⟨Nat.le_of_ble_eq_true rfl, _, rfl, ?_⟩; (conv=>whnf))) | ((with_reducible refine NCallQ.isF 14 ?_); (refine NCallQ.pureEq (ra) ?_; (conv=>whnf))) | ((with_reducible refine NCallQ.isF 14 ?_); (refine NCallQ.pureEq (rb) ?_; (conv=>whnf))) | ((with_reducible refine NCallQ.isF 15 ?_); (refine NCallQ.pureEq (rp) ?_; (conv=>whnf))) | ((with_reducible refine NCallQ.isF 18 ?_); (refine NCallQ.pureEq (c1) ?_; (conv=>whnf))) | ((with_reducible refine NCallQ.isF 18 ?_); (refine NCallQ.pureEq (c2) ?_; (conv=>whnf))) | ((with_reducible refine NCallQ.isF 18 ?_); (refine NCallQ.pureEq (s1) ?_; (conv=>whnf))) | ((with_reducible refine NCallQ.isF 18 ?_); (refine NCallQ.pureEq (s5) ?_; (conv=>whnf))) | ((with_reducible refine NCallQ.isF 20 ?_); (refine NCallQ.pureEq (w1) ?_; (conv=>whnf))) | ((with_reducible refine NCallQ.isF 20 ?_); (refine NCallQ.pureEq (w2) ?_; (conv=>whnf))) | ((with_reducible refine NCallQ.isF 20 ?_); (refine NCallQ.pureEq (s3) ?_; (conv=>whnf))) | ((with_reducible refine NCallQ.isF 20 ?_); (refine NCallQ.pureEq (s4) ?_; (conv=>whnf))) | ((with_reducible refine NCallQ.isF 23 ?_); (refine NCallQ.pureEq (any_c) ?_; (conv=>whnf))) | ((with_reducible refine NCallQ.isF 21 ?_); (refine NCallQ.pureEq (a1) ?_; (conv=>whnf))) | ((with_reducible refine NCallQ.isF 21 ?_); (refine NCallQ.pureEq (a2) ?_; (conv=>whnf))) | ((with_reducible refine NCallQ.isF 22 ?_); (refine NCallQ.pureEq (s2) ?_; (conv=>whnf))) | ((with_reducible refine NCallQ.isF 16 ?_); (refine NCallQ.subEq [0] _ _ (awake8_c F hF) rfl (by decide) rfl rfl ?_; (conv=>whnf))) | (((with_reducible first|refine NV.quo ?s ?_|refine NV.rem ?s ?_|refine NV.i64 ?s ?_|refine NV.u32 ?s ?_|refine NV.u8 ?s ?_|refine NV.u64 ?s ?_);case s=>omega)<;>(conv=>whnf)) | ((with_reducible first|refine NV.divk ?_|refine NV.modk ?_|refine NN.lit ?_|refine NN.cast ?_|refine NN.a1 ?_|refine NN.a2 ?_|refine NN.a3 ?_|refine NN.a4 ?_|refine NN.a5 ?_|refine NN.a6 ?_|refine NV.keep ?_|refine NN.keep ?_|refine NS.keep ?_|refine NIf.not_ ?_)<;>(conv=>whnf)) | (((with_reducible refine NH.mk ?s ?_);case s=>(and_intros <;> first | with_reducible rfl | omega | assumption | exact Nat.le_of_ble_eq_true rfl | (simp only [List.length_append, List.length_cons, List.length_nil]; omega) | rfl))<;>(conv=>whnf)) | (((with_reducible refine NIf.decY ?s ?_);case s=>first|with_reducible rfl|assumption|omega)<;>(conv=>whnf)) | (((with_reducible refine NIf.decN ?s ?_);case s=>first|with_reducible rfl|assumption|omega)<;>(conv=>whnf)) | (((with_reducible refine NIf.yes ?s ?_);case s=>first|rfl|assumption)<;>(conv=>whnf)) | (((with_reducible refine NIf.no ?s ?_);case s=>first|rfl|assumption)<;>(conv=>whnf)) | (((with_reducible refine NLd.of (by with_reducible assumption) ?_))<;>(conv=>whnf)) | ((refine NFlat_iff.2 ⟨⟨?s1,?s2⟩,?_⟩;(case s1=>decide +kernel);(case s2=>decide +kernel))<;>(conv=>whnf)) | ((with_reducible first|refine NIf.dec (fun _=>?_) (fun _=>?_)|refine NIf.both (fun _=>?_) (fun _=>?_))<;>(conv=>whnf)) | ((intro _;skip)<;>(conv=>whnf))))
  all_goals rfl
set_option maxHeartbeats 8000000 in
theorem mw_out (F : Heap) (hF : TabF F) (x y : Mt.N) (hx : x.ok) (hy : y.ok) (port : Int) (k0 k1 k2 k3 : Nat) (hk : ∀ f, f < 4 → kOf k0 k1 k2 k3 f < 256) (h3 : Pk.ok k0 k1 k2 k3) (hw : ¬ Mt.within x y) :
    NCall Tryd.prog 4 [.agg x.toM.av, .agg y.toM.av, .int .i64 port, .agg [.int .i64 k0, .int .i64 k1, .int .i64 k2, .int .i64 k3]] [hpB F] fun r _ => r = .bool true := by
  refine ncall_of Tryd.func4 rfl (by decide) ?_
  have ra := refright_t x hx
  have rb := refright_t y hy
  have rp := refpright_t h3
  have lx := hx.lt
  have ly := hy.lt
  have hv : ∀ f, f < 4 → x.v f < 256 := fun f hf => (lx f hf).1
  have s1 := hits_b x lx (Mt.hitP x) (fun f => x.v f) hv true (decide_eq_true (Mt.hits_self x hx))
  have s2 := hit8_c x
  have s3 := within_t x x lx lx (Mt.within_refl x hx)
  have s4 := within_t x Mt.anyN lx Mt.any_ok.lt (Mt.within_any x hx)
  have w1 := within_f x y lx ly hw
  clear hw
  clear hx hy lx ly hv h3
  generalize Mt.hitP x = hp at *
  obtain ⟨p, v0, v1, v2, v3, u0, u1, u2, u3⟩ := x
  obtain ⟨p', g0, g1, g2, g3, n0, n1, n2, n3⟩ := y
  simp only [Mt.N.toM, Mt.M.av, pkAv, kOf, Mt.N.v, Mt.anyN] at *
  (repeat' (first | (refine z34 (by kernel_rfl) (by decide +kernel) ?_) | (refine z35 (by kernel_rfl) _ rfl ?_) | (refine z36 rfl (by kernel_rfl) ?_; intro K hK; (conv=>whnf)) | (refine z37 rfl (by kernel_rfl) ?_; intro K hK; (conv=>whnf)) | (refine z38 rfl (by kernel_rfl) ?_) | (refine z39 rfl rfl (by kernel_rfl) (by intro h; cases h) ?_) | (refine z40 ?_ ?_; (intro K hK; (conv=>whnf))) | (refine z41 ?_ ?_; (intro K hK; (conv=>whnf))) | exact z42 | (with_reducible first|refine z0 ?_|refine z1 ?_|refine z2 ?_|refine z3 ?_|refine z4 ?_|refine z5 ?_|refine z6 ?_|refine z7 ?_|refine z8 ?_|refine z9 ?_|refine z10 ?_|refine z11 ?_|refine z12 ?_|refine z13 ?_|refine z14 ?_|refine z15 ?_|refine z16 ?_|refine z17 ?_|refine z18 ?_|refine z19 ?_|refine z20 ?_|refine z21 ?_|refine z22 ?_|refine z23 ?_|refine z24 ?_) | (((with_reducible first|refine z25 ?_|refine z26 ?_|refine z27 ?_|refine z28 ?_);intro K hK;(conv=>whnf))) | (with_reducible first|(refine hK _ _ ?_;clear hK K)|(refine hA ?_;clear hA hB A B)|(refine hB ?_;clear hA hB A B)|(refine hK _ ?_;clear hK K)) | ((with_reducible refine z29 ?_);intro A B hA hB;(conv=>whnf)) | (refine z30 (by decide) ?_) | ((first|refine z31 rfl ?_|refine z32 rfl ?_|refine z33 rfl ?_);intro K hK;(conv=>whnf)) | (((with_reducible first|refine NIf.yes ?s ?_);case s=>(simp ;done))<;>(conv=>whnf)) | (((with_reducible first|refine NIf.no ?s ?_);case s=>(simp ;done))<;>(conv=>whnf)) | ((with_reducible refine NCall.isF 14 ?_); (refine NCall.pure (ra) ?_; rintro _ _ rfl; refine ⟨_, rfl, ?_⟩; (conv=>whnf))) | ((with_reducible refine NCall.isF 14 ?_); (refine NCall.pure (rb) ?_; rintro _ _ rfl; refine ⟨_, rfl, ?_⟩; (conv=>whnf))) | ((with_reducible refine NCall.isF 15 ?_); (refine NCall.pure (rp) ?_; rintro _ _ rfl; refine ⟨_, rfl, ?_⟩; (conv=>whnf))) | ((with_reducible refine NCall.isF 18 ?_); (refine NCall.pure (s1) ?_; rintro _ _ rfl; refine ⟨_, rfl, ?_⟩; (conv=>whnf))) | ((with_reducible refine NCall.isF 20 ?_); (refine NCall.pure (w1) ?_; rintro _ _ rfl; refine ⟨_, rfl, ?_⟩; (conv=>whnf))) | ((with_reducible refine NCall.isF 20 ?_); (refine NCall.pure (s3) ?_; rintro _ _ rfl; refine ⟨_, rfl, ?_⟩; (conv=>whnf))) | ((with_reducible refine NCall.isF 20 ?_); (refine NCall.pure (s4) ?_; rintro _ _ rfl; refine ⟨_, rfl, ?_⟩; (conv=>whnf))) | ((with_reducible refine NCall.isF 23 ?_); (refine NCall.pure (any_c) ?_; rintro _ _ rfl; refine ⟨_, rfl, ?_⟩; (conv=>whnf))) | ((with_reducible refine NCall.isF 22 ?_); (refine NCall.pure (s2) ?_; rintro _ _ rfl; refine ⟨_, rfl, ?_⟩; (conv=>whnf))) | ((with_reducible refine NCall.isF 16 ?_); (refine NCall.subw [0] _ _ (awake8_c F hF) rfl (by decide) rfl ?_; rintro _ _ ⟨rfl, rfl⟩; refine ⟨Nat.le_of_ble_eq_true rfl, _, rfl, ?_⟩; (conv=>whnf))) | ((with_reducible refine NCallQ.isF 14 ?_); (refine NCallQ.pureEq (ra) ?_; (conv=>whnf))) | ((with_reducible refine NCallQ.isF 14 ?_); (refine NCallQ.pureEq (rb) ?_; (conv=>whnf))) | ((with_reducible refine NCallQ.isF 15 ?_); (refine NCallQ.pureEq (rp) ?_; (conv=>whnf))) | ((with_reducible refine NCallQ.isF 18 ?_); (refine NCallQ.pureEq (s1) ?_; (conv=>whnf))) | ((with_reducible refine NCallQ.isF 20 ?_); (refine NCallQ.pureEq (w1) ?_; (conv=>whnf))) | ((with_reducible refine NCallQ.isF 20 ?_); (refine NCallQ.pureEq (s3) ?_; (conv=>whnf))) | ((with_reducible refine NCallQ.isF 20 ?_); (refine NCallQ.pureEq (s4) ?_; (conv=>whnf))) | ((with_reducible refine NCallQ.isF 23 ?_); (refine NCallQ.pureEq (any_c) ?_; (conv=>whnf))) | ((with_reducible refine NCallQ.isF 22 ?_); (refine NCallQ.pureEq (s2) ?_; (conv=>whnf))) | ((with_reducible refine NCallQ.isF 16 ?_); (refine NCallQ.subEq [0] _ _ (awake8_c F hF) rfl (by decide) rfl rfl ?_; (conv=>whnf))) | (((with_reducible first|refine NV.quo ?s ?_|refine NV.rem ?s ?_|refine NV.i64 ?s ?_|refine NV.u32 ?s ?_|refine NV.u8 ?s ?_|refine NV.u64 ?s ?_);case s=>omega)<;>(conv=>whnf)) | ((with_reducible first|refine NV.divk ?_|refine NV.modk ?_|refine NN.lit ?_|refine NN.cast ?_|refine NN.a1 ?_|refine NN.a2 ?_|refine NN.a3 ?_|refine NN.a4 ?_|refine NN.a5 ?_|refine NN.a6 ?_|refine NV.keep ?_|refine NN.keep ?_|refine NS.keep ?_|refine NIf.not_ ?_)<;>(conv=>whnf)) | (((with_reducible refine NH.mk ?s ?_);case s=>(and_intros <;> first | with_reducible rfl | omega | assumption | exact Nat.le_of_ble_eq_true rfl | (simp only [List.length_append, List.length_cons, List.length_nil]; omega) | rfl))<;>(conv=>whnf)) | (((with_reducible refine NIf.decY ?s ?_);case s=>first|with_reducible rfl|assumption|omega)<;>(conv=>whnf)) | (((with_reducible refine NIf.decN ?s ?_);case s=>first|with_reducible rfl|assumption|omega)<;>(conv=>whnf)) | (((with_reducible refine NIf.yes ?s ?_);case s=>first|rfl|assumption)<;>(conv=>whnf)) | (((with_reducible refine NIf.no ?s ?_);case s=>first|rfl|assumption)<;>(conv=>whnf)) | (((with_reducible refine NLd.of (by with_reducible assumption) ?_))<;>(conv=>whnf)) | ((refine NFlat_iff.2 ⟨⟨?s1,?s2⟩,?_⟩;(case s1=>decide +kernel);(case s2=>decide +kernel))<;>(conv=>whnf)) | ((with_reducible first|refine NIf.dec (fun _=>?_) (fun _=>?_)|refine NIf.both (fun _=>?_) (fun _=>?_))<;>(conv=>whnf)) | ((intro _;skip)<;>(conv=>whnf))))
  all_goals rfl
set_option maxHeartbeats 8000000 in
theorem mw_eq (F : Heap) (hF : TabF F) (x : Mt.N) (hx : x.ok) (port : Int) (k0 k1 k2 k3 : Nat) (hk : ∀ f, f < 4 → kOf k0 k1 k2 k3 f < 256) (h3 : Pk.ok k0 k1 k2 k3) :
    NCall Tryd.prog 4 [.agg x.toM.av, .agg x.toM.av, .int .i64 port, .agg [.int .i64 k0, .int .i64 k1, .int .i64 k2, .int .i64 k3]] [hpB F] fun r _ => r = .bool true := by
  refine ncall_of Tryd.func4 rfl (by decide) ?_
  have ra := refright_t x hx
  have rp := refpright_t h3
  have lx := hx.lt
  have hv : ∀ f, f < 4 → x.v f < 256 := fun f hf => (lx f hf).1
  have s1 := hits_b x lx (Mt.hitP x) (fun f => x.v f) hv true (decide_eq_true (Mt.hits_self x hx))
  have s2 := hit8_c x
  have s3 := within_t x x lx lx (Mt.within_refl x hx)
  have s4 := within_t x Mt.anyN lx Mt.any_ok.lt (Mt.within_any x hx)
  have a1 := asked_c x lx
  have l1 := Mt.askTo_le x 4
  generalize q1 : decide (Mt.hits x port (kOf k0 k1 k2 k3)) = t1
  have c1 := hits_b x lx port _ hk t1 q1
  generalize Mt.askTo x 4 = n1 at *
  clear q1 hx lx hv h3
  generalize Mt.hitP x = hp at *
  obtain ⟨p, v0, v1, v2, v3, u0, u1, u2, u3⟩ := x
  simp only [Mt.N.toM, Mt.M.av, pkAv, kOf, Mt.N.v, Mt.anyN] at *
  cases t1
  all_goals (repeat' (first | (refine z34 (by kernel_rfl) (by decide +kernel) ?_) | (refine z35 (by kernel_rfl) _ rfl ?_) | (refine z36 rfl (by kernel_rfl) ?_; intro K hK; (conv=>whnf)) | (refine z37 rfl (by kernel_rfl) ?_; intro K hK; (conv=>whnf)) | (refine z38 rfl (by kernel_rfl) ?_) | (refine z39 rfl rfl (by kernel_rfl) (by intro h; cases h) ?_) | (refine z40 ?_ ?_; (intro K hK; (conv=>whnf))) | (refine z41 ?_ ?_; (intro K hK; (conv=>whnf))) | exact z42 | (with_reducible first|refine z0 ?_|refine z1 ?_|refine z2 ?_|refine z3 ?_|refine z4 ?_|refine z5 ?_|refine z6 ?_|refine z7 ?_|refine z8 ?_|refine z9 ?_|refine z10 ?_|refine z11 ?_|refine z12 ?_|refine z13 ?_|refine z14 ?_|refine z15 ?_|refine z16 ?_|refine z17 ?_|refine z18 ?_|refine z19 ?_|refine z20 ?_|refine z21 ?_|refine z22 ?_|refine z23 ?_|refine z24 ?_) | (((with_reducible first|refine z25 ?_|refine z26 ?_|refine z27 ?_|refine z28 ?_);intro K hK;(conv=>whnf))) | (with_reducible first|(refine hK _ _ ?_;clear hK K)|(refine hA ?_;clear hA hB A B)|(refine hB ?_;clear hA hB A B)|(refine hK _ ?_;clear hK K)) | ((with_reducible refine z29 ?_);intro A B hA hB;(conv=>whnf)) | (refine z30 (by decide) ?_) | ((first|refine z31 rfl ?_|refine z32 rfl ?_|refine z33 rfl ?_);intro K hK;(conv=>whnf)) | (((with_reducible first|refine NIf.yes ?s ?_);case s=>(simp ;done))<;>(conv=>whnf)) | (((with_reducible first|refine NIf.no ?s ?_);case s=>(simp ;done))<;>(conv=>whnf)) | ((with_reducible refine NCall.isF 14 ?_); (refine NCall.pure (ra) ?_; rintro _ _ rfl; refine ⟨_, rfl, ?_⟩; (conv=>whnf))) | ((with_reducible refine NCall.isF 15 ?_); (refine NCall.pure (rp) ?_; rintro _ _ rfl; refine ⟨_, rfl, ?_⟩; (conv=>whnf))) | ((with_reducible refine NCall.isF 18 ?_); (refine NCall.pure (c1) ?_; rintro _ _ rfl; refine ⟨_, rfl, ?_⟩; (conv=>whnf))) | ((with_reducible refine NCall.isF 18 ?_); (refine NCall.pure (s1) ?_; rintro _ _ rfl; refine ⟨_, rfl, ?_⟩; (conv=>whnf))) | ((with_reducible refine NCall.isF 20 ?_); (refine NCall.pure (s3) ?_; rintro _ _ rfl; refine ⟨_, rfl, ?_⟩; (conv=>whnf))) | ((with_reducible refine NCall.isF 20 ?_); (refine NCall.pure (s4) ?_; rintro _ _ rfl; refine ⟨_, rfl, ?_⟩; (conv=>whnf))) | ((with_reducible refine NCall.isF 23 ?_); (refine NCall.pure (any_c) ?_; rintro _ _ rfl; refine ⟨_, rfl, ?_⟩; (conv=>whnf))) | ((with_reducible refine NCall.isF 21 ?_); (refine NCall.pure (a1) ?_; rintro _ _ rfl; refine ⟨_, rfl, ?_⟩; (conv=>whnf))) | ((with_reducible refine NCall.isF 22 ?_); (refine NCall.pure (s2) ?_; rintro _ _ rfl; refine ⟨_, rfl, ?_⟩; (conv=>whnf))) | ((with_reducible refine NCall.isF 16 ?_); (refine NCall.subw [0] _ _ (awake8_c F hF) rfl (by decide) rfl ?_; rintro _ _ ⟨rfl, rfl⟩; refine ⟨Nat.le_of_ble_eq_true rfl, _, rfl, ?_⟩; (conv=>whnf))) | ((with_reducible refine NCallQ.isF 14 ?_); (refine NCallQ.pureEq (ra) ?_; (conv=>whnf))) | ((with_reducible refine NCallQ.isF 15 ?_); (refine NCallQ.pureEq (rp) ?_; (conv=>whnf))) | ((with_reducible refine NCallQ.isF 18 ?_); (refine NCallQ.pureEq (c1) ?_; (conv=>whnf))) | ((with_reducible refine NCallQ.isF 18 ?_); (refine NCallQ.pureEq (s1) ?_; (conv=>whnf))) | ((with_reducible refine NCallQ.isF 20 ?_); (refine NCallQ.pureEq (s3) ?_; (conv=>whnf))) | ((with_reducible refine NCallQ.isF 20 ?_); (refine NCallQ.pureEq (s4) ?_; (conv=>whnf))) | ((with_reducible refine NCallQ.isF 23 ?_); (refine NCallQ.pureEq (any_c) ?_; (conv=>whnf))) | ((with_reducible refine NCallQ.isF 21 ?_); (refine NCallQ.pureEq (a1) ?_; (conv=>whnf))) | ((with_reducible refine NCallQ.isF 22 ?_); (refine NCallQ.pureEq (s2) ?_; (conv=>whnf))) | ((with_reducible refine NCallQ.isF 16 ?_); (refine NCallQ.subEq [0] _ _ (awake8_c F hF) rfl (by decide) rfl rfl ?_; (conv=>whnf))) | (((with_reducible first|refine NV.quo ?s ?_|refine NV.rem ?s ?_|refine NV.i64 ?s ?_|refine NV.u32 ?s ?_|refine NV.u8 ?s ?_|refine NV.u64 ?s ?_);case s=>omega)<;>(conv=>whnf)) | ((with_reducible first|refine NV.divk ?_|refine NV.modk ?_|refine NN.lit ?_|refine NN.cast ?_|refine NN.a1 ?_|refine NN.a2 ?_|refine NN.a3 ?_|refine NN.a4 ?_|refine NN.a5 ?_|refine NN.a6 ?_|refine NV.keep ?_|refine NN.keep ?_|refine NS.keep ?_|refine NIf.not_ ?_)<;>(conv=>whnf)) | (((with_reducible refine NH.mk ?s ?_);case s=>(and_intros <;> first | with_reducible rfl | omega | assumption | exact Nat.le_of_ble_eq_true rfl | (simp only [List.length_append, List.length_cons, List.length_nil]; omega) | rfl))<;>(conv=>whnf)) | (((with_reducible refine NIf.decY ?s ?_);case s=>first|with_reducible rfl|assumption|omega)<;>(conv=>whnf)) | (((with_reducible refine NIf.decN ?s ?_);case s=>first|with_reducible rfl|assumption|omega)<;>(conv=>whnf)) | (((with_reducible refine NIf.yes ?s ?_);case s=>first|rfl|assumption)<;>(conv=>whnf)) | (((with_reducible refine NIf.no ?s ?_);case s=>first|rfl|assumption)<;>(conv=>whnf)) | (((with_reducible refine NLd.of (by with_reducible assumption) ?_))<;>(conv=>whnf)) | ((refine NFlat_iff.2 ⟨⟨?s1,?s2⟩,?_⟩;(case s1=>decide +kernel);(case s2=>decide +kernel))<;>(conv=>whnf)) | ((with_reducible first|refine NIf.dec (fun _=>?_) (fun _=>?_)|refine NIf.both (fun _=>?_) (fun _=>?_))<;>(conv=>whnf)) | ((intro _;skip)<;>(conv=>whnf))))
  all_goals rfl
theorem matchWithin_c (F : Heap) (hF : TabF F) (a b : Mt.M) (port p0 p1 p2 p3 : Int) (ha : a.in64) (hb : b.in64) :
    NCall Tryd.prog 4 [.agg a.av, .agg b.av, .int .i64 port, .agg [.int .i64 p0, .int .i64 p1, .int .i64 p2, .int .i64 p3]] [hpB F] fun r _ => r = .bool true := by
  by_cases h : a.ok ∧ b.ok ∧ Pk.ok p0 p1 p2 p3
  · obtain ⟨h1, h2, h3⟩ := h
    obtain ⟨x, rfl⟩ := Mt.M.toN h1
    obtain ⟨y, rfl⟩ := Mt.M.toN h2
    have hx := (Mt.N.ok_iff x).1 h1
    have hy := (Mt.N.ok_iff y).1 h2
    obtain ⟨k0, k1, k2, k3, rfl, rfl, rfl, rfl, hk⟩ := pk_nat h3
    by_cases hw : Mt.within x y
    · by_cases hxy : x = y
      · subst hxy
        exact mw_eq F hF x hx port k0 k1 k2 k3 hk h3
      · exact mw_ne F hF x y hx hy port k0 k1 k2 k3 hk h3 hw hxy
    · exact mw_out F hF x y hx hy port k0 k1 k2 k3 hk h3 hw
  · exact mw_bad F hF a b port p0 p1 p2 p3 ha hb h
end Go.Proofs.YtokbckflleaplaaDoor
