/-
  Numerals, walked: the document's digits.
-/
import Derived.Test.YtdalneokgejmjaaDoorSxC
import Derived.Test.YtdalneokgejmjaaDoorProg
import Derived.Lib.ItoaLen
namespace Go.Proofs.YtdalneokgejmjaaDoor
open Go.Sx
set_option maxRecDepth 20000
set_option linter.unusedSimpArgs false
set_option linter.unusedVariables false
set_option linter.unusedVariables false
theorem set_get {cs : List AV} {i j : Nat} {v x : AV} (h : cs[j]? = some x) (hne : i ≠ j) : (cs.set i v)[j]? = some x := by rw [List.getElem?_set_ne hne]; exact h
/-! ### Numerals -/
def dig10 : List UInt8 := [48, 49, 50, 51, 52, 53, 54, 55, 56, 57]
theorem dig_piece : ∀ u : Nat, u < 10 → ([48, 49, 50, 51, 52, 53, 54, 55, 56, 57].drop u).take (u + 1 - u) = [UInt8.ofNat (48 + u)] := by decide +kernel
theorem digN_c : ∀ u : Nat, u ≤ 9223372036854775807 → NCall Tryd.prog 30 [.int .i64 u] [] fun r _ => r = .str (Lib.decDigits u) := by
  intro u
  induction u using Nat.strongRecOn with
  | _ u ih =>
    intro hu
    refine ncall_of Tryd.func30 rfl (by decide) ?_
    by_cases h : u < 10
    · have e := dig_piece u h
      rw [← Lib.decDigits_one h] at e
      (repeat' (first | (with_reducible first|refine z0 ?_|refine z1 ?_|refine z2 ?_|refine z3 ?_|refine z4 ?_|refine z5 ?_|refine z6 ?_|refine z7 ?_|refine z8 ?_|refine z9 ?_|refine z10 ?_|refine z11 ?_|refine z12 ?_|refine z13 ?_|refine z14 ?_|refine z15 ?_|refine z16 ?_|refine z17 ?_|refine z18 ?_|refine z19 ?_|refine z20 ?_|refine z21 ?_|refine z22 ?_|refine z23 ?_|refine z24 ?_) | (((with_reducible first|refine z25 ?_|refine z26 ?_|refine z27 ?_|refine z28 ?_);intro K hK;(conv=>whnf))) | (with_reducible first|(refine hK _ _ ?_;clear hK K)|(refine hA ?_;clear hA hB A B)|(refine hB ?_;clear hA hB A B)|(refine hK _ ?_;clear hK K)) | ((with_reducible refine z29 ?_);intro A B hA hB;(conv=>whnf)) | (refine z30 (by decide) ?_) | ((first|refine z31 rfl ?_|refine z32 rfl ?_|refine z33 rfl ?_);intro K hK;(conv=>whnf)) | (refine z34 (by kernel_rfl) (by kernel_rfl) ?_) | (((with_reducible refine NN.eq (n := u + 1) ?side ?_); case side => omega) <;> (conv=>whnf)) | ((with_reducible refine NS.eq (e) ?_) <;> (conv=>whnf)) | (((with_reducible first|refine NV.quo ?s ?_|refine NV.rem ?s ?_|refine NV.i64 ?s ?_|refine NV.u32 ?s ?_|refine NV.u8 ?s ?_|refine NV.u64 ?s ?_);case s=>omega)<;>(conv=>whnf)) | ((with_reducible first|refine NV.divk ?_|refine NV.modk ?_|refine NN.lit ?_|refine NN.cast ?_|refine NN.a1 ?_|refine NN.a2 ?_|refine NN.a3 ?_|refine NN.a4 ?_|refine NN.a5 ?_|refine NN.a6 ?_|refine NV.keep ?_|refine NN.keep ?_|refine NS.keep ?_|refine NIf.not_ ?_)<;>(conv=>whnf)) | (((with_reducible refine NH.mk ?s ?_);case s=>(and_intros <;> first | with_reducible rfl | omega | assumption | exact Nat.le_of_ble_eq_true rfl | (simp only [List.length_append, List.length_cons, List.length_nil]; omega) | rfl))<;>(conv=>whnf)) | (((with_reducible refine NIf.decY ?s ?_);case s=>first|with_reducible rfl|assumption|omega)<;>(conv=>whnf)) | (((with_reducible refine NIf.decN ?s ?_);case s=>first|with_reducible rfl|assumption|omega)<;>(conv=>whnf)) | (((with_reducible refine NIf.yes ?s ?_);case s=>first|rfl|assumption)<;>(conv=>whnf)) | (((with_reducible refine NIf.no ?s ?_);case s=>first|rfl|assumption)<;>(conv=>whnf)) | (((with_reducible refine NLd.of (by with_reducible assumption) ?_))<;>(conv=>whnf)) | ((refine NFlat_iff.2 ⟨⟨?s1,?s2⟩,?_⟩;(case s1=>decide +kernel);(case s2=>decide +kernel))<;>(conv=>whnf)) | ((with_reducible first|refine NIf.dec (fun _=>?_) (fun _=>?_)|refine NIf.both (fun _=>?_) (fun _=>?_))<;>(conv=>whnf)) | ((intro _;skip)<;>(conv=>whnf))))
      rfl
    · have h1 := ih (u / 10) (by omega) (by omega)
      have e1 : IntKind.i64.wrap ((u : Int) / 10) = ((u / 10 : Nat) : Int) := by rw [wrap_i64 (by omega) (by omega)]; omega
      have e2 : (u : Int).tmod 10 = ((u % 10 : Nat) : Int) := by rw [Int.tmod_eq_emod_of_nonneg (by omega)]; omega
      have hd : Lib.decDigits u = Lib.decDigits (u / 10) ++ [UInt8.ofNat (48 + u % 10)] := by rw [Lib.decDigits, dif_neg h]
      have hl := Lib.itoa_length_le ((u / 10 : Nat) : Int) (by omega) (by omega)
      rw [Lib.itoa, if_neg (by omega), Int.toNat_natCast] at hl
      have hm : u % 10 < 10 := Nat.mod_lt _ (by decide)
      rw [hd]
      generalize Lib.decDigits (u / 10) = ds at *
      generalize u % 10 = d at *
      have e := dig_piece d hm
      generalize u / 10 = q at *
      (repeat' (first | (with_reducible first|refine z0 ?_|refine z1 ?_|refine z2 ?_|refine z3 ?_|refine z4 ?_|refine z5 ?_|refine z6 ?_|refine z7 ?_|refine z8 ?_|refine z9 ?_|refine z10 ?_|refine z11 ?_|refine z12 ?_|refine z13 ?_|refine z14 ?_|refine z15 ?_|refine z16 ?_|refine z17 ?_|refine z18 ?_|refine z19 ?_|refine z20 ?_|refine z21 ?_|refine z22 ?_|refine z23 ?_|refine z24 ?_) | (((with_reducible first|refine z25 ?_|refine z26 ?_|refine z27 ?_|refine z28 ?_);intro K hK;(conv=>whnf))) | (with_reducible first|(refine hK _ _ ?_;clear hK K)|(refine hA ?_;clear hA hB A B)|(refine hB ?_;clear hA hB A B)|(refine hK _ ?_;clear hK K)) | ((with_reducible refine z29 ?_);intro A B hA hB;(conv=>whnf)) | (refine z30 (by decide) ?_) | ((first|refine z31 rfl ?_|refine z32 rfl ?_|refine z33 rfl ?_);intro K hK;(conv=>whnf)) | (refine z34 (by kernel_rfl) (by kernel_rfl) ?_) | ((with_reducible refine NV.eq (e1) ?_) <;> (conv=>whnf)) | ((with_reducible refine NV.eq (e2) ?_) <;> (conv=>whnf)) | (((with_reducible refine NN.eq (n := d + 1) ?side ?_); case side => omega) <;> (conv=>whnf)) | ((with_reducible refine NS.eq (e) ?_) <;> (conv=>whnf)) | ((with_reducible refine NCallQ.isF 30 ?_); (refine NCallQ.pureEq (h1) ?_; (conv=>whnf))) | (((with_reducible first|refine NV.quo ?s ?_|refine NV.rem ?s ?_|refine NV.i64 ?s ?_|refine NV.u32 ?s ?_|refine NV.u8 ?s ?_|refine NV.u64 ?s ?_);case s=>omega)<;>(conv=>whnf)) | ((with_reducible first|refine NV.divk ?_|refine NV.modk ?_|refine NN.lit ?_|refine NN.cast ?_|refine NN.a1 ?_|refine NN.a2 ?_|refine NN.a3 ?_|refine NN.a4 ?_|refine NN.a5 ?_|refine NN.a6 ?_|refine NV.keep ?_|refine NN.keep ?_|refine NS.keep ?_|refine NIf.not_ ?_)<;>(conv=>whnf)) | (((with_reducible refine NH.mk ?s ?_);case s=>(and_intros <;> first | with_reducible rfl | omega | assumption | exact Nat.le_of_ble_eq_true rfl | (simp only [List.length_append, List.length_cons, List.length_nil]; omega) | rfl))<;>(conv=>whnf)) | (((with_reducible refine NIf.decY ?s ?_);case s=>first|with_reducible rfl|assumption|omega)<;>(conv=>whnf)) | (((with_reducible refine NIf.decN ?s ?_);case s=>first|with_reducible rfl|assumption|omega)<;>(conv=>whnf)) | (((with_reducible refine NIf.yes ?s ?_);case s=>first|rfl|assumption)<;>(conv=>whnf)) | (((with_reducible refine NIf.no ?s ?_);case s=>first|rfl|assumption)<;>(conv=>whnf)) | (((with_reducible refine NLd.of (by with_reducible assumption) ?_))<;>(conv=>whnf)) | ((refine NFlat_iff.2 ⟨⟨?s1,?s2⟩,?_⟩;(case s1=>decide +kernel);(case s2=>decide +kernel))<;>(conv=>whnf)) | ((with_reducible first|refine NIf.dec (fun _=>?_) (fun _=>?_)|refine NIf.both (fun _=>?_) (fun _=>?_))<;>(conv=>whnf)) | ((intro _;skip)<;>(conv=>whnf))))
      rfl
theorem digits_c (n : Int) (hn : -9223372036854775808 ≤ n ∧ n ≤ 9223372036854775807) : NCall Tryd.prog 30 [.int .i64 n] [] fun r _ => r = .str (Lib.itoa n) := by
  unfold Lib.itoa
  by_cases h0 : n < 0
  · rw [if_pos h0]
    obtain ⟨u, rfl⟩ : ∃ u : Nat, n = -(u : Int) := ⟨n.natAbs, by omega⟩
    rw [show (-(u : Int)).natAbs = u by omega]
    refine ncall_of Tryd.func30 rfl (by decide) ?_
    by_cases h : u < 10
    · have h1 := digN_c u (by omega)
      have e1 : IntKind.i64.wrap (0 - -(u : Int)) = (u : Int) := by rw [wrap_i64 (by omega) (by omega)]; omega
      have hl : (Lib.decDigits u).length = 1 := by rw [Lib.decDigits_one h]; rfl
      generalize Lib.decDigits u = ds at *
      (repeat' (first | (with_reducible first|refine z0 ?_|refine z1 ?_|refine z2 ?_|refine z3 ?_|refine z4 ?_|refine z5 ?_|refine z6 ?_|refine z7 ?_|refine z8 ?_|refine z9 ?_|refine z10 ?_|refine z11 ?_|refine z12 ?_|refine z13 ?_|refine z14 ?_|refine z15 ?_|refine z16 ?_|refine z17 ?_|refine z18 ?_|refine z19 ?_|refine z20 ?_|refine z21 ?_|refine z22 ?_|refine z23 ?_|refine z24 ?_) | (((with_reducible first|refine z25 ?_|refine z26 ?_|refine z27 ?_|refine z28 ?_);intro K hK;(conv=>whnf))) | (with_reducible first|(refine hK _ _ ?_;clear hK K)|(refine hA ?_;clear hA hB A B)|(refine hB ?_;clear hA hB A B)|(refine hK _ ?_;clear hK K)) | ((with_reducible refine z29 ?_);intro A B hA hB;(conv=>whnf)) | (refine z30 (by decide) ?_) | ((first|refine z31 rfl ?_|refine z32 rfl ?_|refine z33 rfl ?_);intro K hK;(conv=>whnf)) | (refine z34 (by kernel_rfl) (by kernel_rfl) ?_) | ((with_reducible refine NV.eq (e1) ?_) <;> (conv=>whnf)) | ((with_reducible refine NCall.isF 30 ?_); (refine NCall.pure (h1) ?_; rintro _ _ rfl; refine ⟨_, rfl, ?_⟩; (conv=>whnf))) | (((with_reducible first|refine NV.quo ?s ?_|refine NV.rem ?s ?_|refine NV.i64 ?s ?_|refine NV.u32 ?s ?_|refine NV.u8 ?s ?_|refine NV.u64 ?s ?_);case s=>omega)<;>(conv=>whnf)) | ((with_reducible first|refine NV.divk ?_|refine NV.modk ?_|refine NN.lit ?_|refine NN.cast ?_|refine NN.a1 ?_|refine NN.a2 ?_|refine NN.a3 ?_|refine NN.a4 ?_|refine NN.a5 ?_|refine NN.a6 ?_|refine NV.keep ?_|refine NN.keep ?_|refine NS.keep ?_|refine NIf.not_ ?_)<;>(conv=>whnf)) | (((with_reducible refine NH.mk ?s ?_);case s=>(and_intros <;> first | with_reducible rfl | omega | assumption | exact Nat.le_of_ble_eq_true rfl | (simp only [List.length_append, List.length_cons, List.length_nil]; omega) | rfl))<;>(conv=>whnf)) | (((with_reducible refine NIf.decY ?s ?_);case s=>first|with_reducible rfl|assumption|omega)<;>(conv=>whnf)) | (((with_reducible refine NIf.decN ?s ?_);case s=>first|with_reducible rfl|assumption|omega)<;>(conv=>whnf)) | (((with_reducible refine NIf.yes ?s ?_);case s=>first|rfl|assumption)<;>(conv=>whnf)) | (((with_reducible refine NIf.no ?s ?_);case s=>first|rfl|assumption)<;>(conv=>whnf)) | (((with_reducible refine NLd.of (by with_reducible assumption) ?_))<;>(conv=>whnf)) | ((refine NFlat_iff.2 ⟨⟨?s1,?s2⟩,?_⟩;(case s1=>decide +kernel);(case s2=>decide +kernel))<;>(conv=>whnf)) | ((with_reducible first|refine NIf.dec (fun _=>?_) (fun _=>?_)|refine NIf.both (fun _=>?_) (fun _=>?_))<;>(conv=>whnf)) | ((intro _;skip)<;>(conv=>whnf))))
      rfl
    · have h1 := digN_c (u / 10) (by omega)
      have h2 := digN_c (u % 10) (by omega)
      have e0 : (-(u : Int)).tdiv 10 = -((u / 10 : Nat) : Int) := by rw [Int.neg_tdiv, Int.tdiv_eq_ediv_of_nonneg (by omega)]; omega
      have e1 : IntKind.i64.wrap ((-(u : Int)).tdiv 10) = -((u / 10 : Nat) : Int) := by rw [e0, wrap_i64 (by omega) (by omega)]
      have e2 : (-(u : Int)).tmod 10 = -((u % 10 : Nat) : Int) := by rw [Int.neg_tmod, Int.tmod_eq_emod_of_nonneg (by omega)]; omega
      have hd : Lib.decDigits u = Lib.decDigits (u / 10) ++ [UInt8.ofNat (48 + u % 10)] := by rw [Lib.decDigits, dif_neg h]
      have hm : u % 10 < 10 := Nat.mod_lt _ (by decide)
      have hl := Lib.itoa_length_le ((u / 10 : Nat) : Int) (by omega) (by omega)
      rw [Lib.itoa, if_neg (by omega), Int.toNat_natCast] at hl
      rw [Lib.decDigits_one hm] at h2
      rw [hd]
      generalize Lib.decDigits (u / 10) = ds at *
      have e3 : IntKind.i64.wrap (0 - -((u / 10 : Nat) : Int)) = ((u / 10 : Nat) : Int) := by rw [wrap_i64 (by omega) (by omega)]; omega
      have e4 : IntKind.i64.wrap (0 - -((u % 10 : Nat) : Int)) = ((u % 10 : Nat) : Int) := by rw [wrap_i64 (by omega) (by omega)]; omega
      generalize u % 10 = d at *
      generalize u / 10 = q at *
      (repeat' (first | (with_reducible first|refine z0 ?_|refine z1 ?_|refine z2 ?_|refine z3 ?_|refine z4 ?_|refine z5 ?_|refine z6 ?_|refine z7 ?_|refine z8 ?_|refine z9 ?_|refine z10 ?_|refine z11 ?_|refine z12 ?_|refine z13 ?_|refine z14 ?_|refine z15 ?_|refine z16 ?_|refine z17 ?_|refine z18 ?_|refine z19 ?_|refine z20 ?_|refine z21 ?_|refine z22 ?_|refine z23 ?_|refine z24 ?_) | (((with_reducible first|refine z25 ?_|refine z26 ?_|refine z27 ?_|refine z28 ?_);intro K hK;(conv=>whnf))) | (with_reducible first|(refine hK _ _ ?_;clear hK K)|(refine hA ?_;clear hA hB A B)|(refine hB ?_;clear hA hB A B)|(refine hK _ ?_;clear hK K)) | ((with_reducible refine z29 ?_);intro A B hA hB;(conv=>whnf)) | (refine z30 (by decide) ?_) | ((first|refine z31 rfl ?_|refine z32 rfl ?_|refine z33 rfl ?_);intro K hK;(conv=>whnf)) | (refine z34 (by kernel_rfl) (by kernel_rfl) ?_) | ((with_reducible refine NV.eq (e1) ?_) <;> (conv=>whnf)) | ((with_reducible refine NV.eq (e2) ?_) <;> (conv=>whnf)) | ((with_reducible refine NV.eq (e3) ?_) <;> (conv=>whnf)) | ((with_reducible refine NV.eq (e4) ?_) <;> (conv=>whnf)) | ((with_reducible refine NCall.isF 30 ?_); (refine NCall.pure (h1) ?_; rintro _ _ rfl; refine ⟨_, rfl, ?_⟩; (conv=>whnf))) | ((with_reducible refine NCall.isF 30 ?_); (refine NCall.pure (h2) ?_; rintro _ _ rfl; refine ⟨_, rfl, ?_⟩; (conv=>whnf))) | (((with_reducible first|refine NV.quo ?s ?_|refine NV.rem ?s ?_|refine NV.i64 ?s ?_|refine NV.u32 ?s ?_|refine NV.u8 ?s ?_|refine NV.u64 ?s ?_);case s=>omega)<;>(conv=>whnf)) | ((with_reducible first|refine NV.divk ?_|refine NV.modk ?_|refine NN.lit ?_|refine NN.cast ?_|refine NN.a1 ?_|refine NN.a2 ?_|refine NN.a3 ?_|refine NN.a4 ?_|refine NN.a5 ?_|refine NN.a6 ?_|refine NV.keep ?_|refine NN.keep ?_|refine NS.keep ?_|refine NIf.not_ ?_)<;>(conv=>whnf)) | (((with_reducible refine NH.mk ?s ?_);case s=>(and_intros <;> first | with_reducible rfl | omega | assumption | exact Nat.le_of_ble_eq_true rfl | (simp only [List.length_append, List.length_cons, List.length_nil]; omega) | rfl))<;>(conv=>whnf)) | (((with_reducible refine NIf.decY ?s ?_);case s=>first|with_reducible rfl|assumption|omega)<;>(conv=>whnf)) | (((with_reducible refine NIf.decN ?s ?_);case s=>first|with_reducible rfl|assumption|omega)<;>(conv=>whnf)) | (((with_reducible refine NIf.yes ?s ?_);case s=>first|rfl|assumption)<;>(conv=>whnf)) | (((with_reducible refine NIf.no ?s ?_);case s=>first|rfl|assumption)<;>(conv=>whnf)) | (((with_reducible refine NLd.of (by with_reducible assumption) ?_))<;>(conv=>whnf)) | ((refine NFlat_iff.2 ⟨⟨?s1,?s2⟩,?_⟩;(case s1=>decide +kernel);(case s2=>decide +kernel))<;>(conv=>whnf)) | ((with_reducible first|refine NIf.dec (fun _=>?_) (fun _=>?_)|refine NIf.both (fun _=>?_) (fun _=>?_))<;>(conv=>whnf)) | ((intro _;skip)<;>(conv=>whnf))))
      rfl
  · rw [if_neg h0]
    obtain ⟨u, rfl⟩ := Int.eq_ofNat_of_zero_le (show 0 ≤ n by omega)
    exact digN_c u (by omega)
end Go.Proofs.YtdalneokgejmjaaDoor
