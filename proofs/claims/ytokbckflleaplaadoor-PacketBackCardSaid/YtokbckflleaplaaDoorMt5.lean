/-
  Matches, walked: one field alone, and text.
-/
import Derived.Test.YtokbckflleaplaaDoorMt4
import Derived.Test.YtokbckflleaplaaDoorLib1
import Derived.Lib.ItoaLen
namespace Go.Proofs.YtokbckflleaplaaDoor
open Go.Sx
set_option maxRecDepth 20000
set_option linter.unusedSimpArgs false
set_option linter.unusedVariables false
def nameB (f : Nat) : List UInt8 := match f with | 0 => [115, 114, 99] | 1 => [100, 115, 116] | 2 => [107, 105, 110, 100] | _ => [116, 97, 103]
theorem names_c : NCall Tryd.prog 81 [] [] fun r _ => r = .agg [.str (nameB 0), .str (nameB 1), .str (nameB 2), .str (nameB 3)] := by
  refine ncall_of Tryd.func81 rfl (by decide) ?_
  (repeat' (first | (with_reducible first|refine z0 ?_|refine z1 ?_|refine z2 ?_|refine z3 ?_|refine z4 ?_|refine z5 ?_|refine z6 ?_|refine z7 ?_|refine z8 ?_|refine z9 ?_|refine z10 ?_|refine z11 ?_|refine z12 ?_|refine z13 ?_|refine z14 ?_|refine z15 ?_|refine z16 ?_|refine z17 ?_|refine z18 ?_|refine z19 ?_|refine z20 ?_|refine z21 ?_|refine z22 ?_|refine z23 ?_|refine z24 ?_) | (((with_reducible first|refine z25 ?_|refine z26 ?_|refine z27 ?_|refine z28 ?_);intro K hK;(conv=>whnf))) | (with_reducible first|(refine hK _ _ ?_;clear hK K)|(refine hA ?_;clear hA hB A B)|(refine hB ?_;clear hA hB A B)|(refine hK _ ?_;clear hK K)) | ((with_reducible refine z29 ?_);intro A B hA hB;(conv=>whnf)) | (refine z30 (by decide) ?_) | ((first|refine z31 rfl ?_|refine z32 rfl ?_|refine z33 rfl ?_);intro K hK;(conv=>whnf)) | (refine z34 (by kernel_rfl) (by kernel_rfl) ?_) | (((with_reducible first|refine NV.quo ?s ?_|refine NV.rem ?s ?_|refine NV.i64 ?s ?_|refine NV.u32 ?s ?_|refine NV.u8 ?s ?_|refine NV.u64 ?s ?_);case s=>omega)<;>(conv=>whnf)) | ((with_reducible first|refine NV.divk ?_|refine NV.modk ?_|refine NN.lit ?_|refine NN.cast ?_|refine NN.a1 ?_|refine NN.a2 ?_|refine NN.a3 ?_|refine NN.a4 ?_|refine NN.a5 ?_|refine NN.a6 ?_|refine NV.keep ?_|refine NN.keep ?_|refine NS.keep ?_|refine NIf.not_ ?_)<;>(conv=>whnf)) | (((with_reducible refine NH.mk ?s ?_);case s=>(and_intros <;> first | with_reducible rfl | omega | assumption | exact Nat.le_of_ble_eq_true rfl | (simp only [List.length_append, List.length_cons, List.length_nil]; omega) | rfl))<;>(conv=>whnf)) | (((with_reducible refine NIf.decY ?s ?_);case s=>first|with_reducible rfl|assumption|omega)<;>(conv=>whnf)) | (((with_reducible refine NIf.decN ?s ?_);case s=>first|with_reducible rfl|assumption|omega)<;>(conv=>whnf)) | (((with_reducible refine NIf.yes ?s ?_);case s=>first|rfl|assumption)<;>(conv=>whnf)) | (((with_reducible refine NIf.no ?s ?_);case s=>first|rfl|assumption)<;>(conv=>whnf)) | (((with_reducible refine NLd.of (by with_reducible assumption) ?_))<;>(conv=>whnf)) | ((refine NFlat_iff.2 ⟨⟨?s1,?s2⟩,?_⟩;(case s1=>decide +kernel);(case s2=>decide +kernel))<;>(conv=>whnf)) | ((with_reducible first|refine NIf.dec (fun _=>?_) (fun _=>?_)|refine NIf.both (fun _=>?_) (fun _=>?_))<;>(conv=>whnf)) | ((intro _;skip)<;>(conv=>whnf))))
  rfl
theorem of13_c : NCall Tryd.prog 27 [.int .i64 1, .int .i64 3] [] fun r _ => r = .agg [.int .i64 (-1), .int .i64 0, .int .i64 3, .int .i64 0, .int .i64 0, .int .i64 0, .int .i64 255, .int .i64 0, .int .i64 0] := by
  refine ncall_of Tryd.func27 rfl (by decide) ?_
  (repeat' (first | (refine z35 (by kernel_rfl) _ rfl ?_) | (refine z36 rfl (by kernel_rfl) ?_; intro K hK; (conv=>whnf)) | (refine z37 rfl (by kernel_rfl) ?_; intro K hK; (conv=>whnf)) | (refine z38 rfl (by kernel_rfl) ?_) | (refine z39 rfl rfl (by kernel_rfl) (by intro h; cases h) ?_) | (refine z40 ?_ ?_; (intro K hK; (conv=>whnf))) | (refine z41 ?_ ?_; (intro K hK; (conv=>whnf))) | exact z42 | (with_reducible first|refine z0 ?_|refine z1 ?_|refine z2 ?_|refine z3 ?_|refine z4 ?_|refine z5 ?_|refine z6 ?_|refine z7 ?_|refine z8 ?_|refine z9 ?_|refine z10 ?_|refine z11 ?_|refine z12 ?_|refine z13 ?_|refine z14 ?_|refine z15 ?_|refine z16 ?_|refine z17 ?_|refine z18 ?_|refine z19 ?_|refine z20 ?_|refine z21 ?_|refine z22 ?_|refine z23 ?_|refine z24 ?_) | (((with_reducible first|refine z25 ?_|refine z26 ?_);intro K hK;(conv=>whnf))) | (with_reducible first|(refine hK _ _ ?_;clear hK K)|(refine hA ?_;clear hA hB A B)|(refine hB ?_;clear hA hB A B)|(refine hK _ ?_;clear hK K)) | ((with_reducible refine z29 ?_);intro A B hA hB;(conv=>whnf)) | (refine z30 (by decide) ?_) | ((first|refine z31 rfl ?_|refine z32 rfl ?_|refine z33 rfl ?_);intro K hK;(conv=>whnf)) | ((with_reducible refine NCall.isF 23 ?_); (refine NCall.pure (any_c) ?_; rintro _ _ rfl; refine ⟨_, rfl, ?_⟩; (conv=>whnf))) | ((with_reducible refine NCall.isF 62 ?_); (refine NCall.pure (top_1) ?_; rintro _ _ rfl; refine ⟨_, rfl, ?_⟩; (conv=>whnf))) | (((with_reducible first|refine NV.quo ?s ?_|refine NV.rem ?s ?_|refine NV.i64 ?s ?_|refine NV.u32 ?s ?_|refine NV.u8 ?s ?_|refine NV.u64 ?s ?_);case s=>omega)<;>(conv=>whnf)) | ((with_reducible first|refine NV.divk ?_|refine NV.modk ?_|refine NN.lit ?_|refine NN.cast ?_|refine NN.a1 ?_|refine NN.a2 ?_|refine NN.a3 ?_|refine NN.a4 ?_|refine NN.a5 ?_|refine NN.a6 ?_|refine NV.keep ?_|refine NN.keep ?_|refine NS.keep ?_|refine NIf.not_ ?_)<;>(conv=>whnf)) | (((with_reducible refine NH.mk ?s ?_);case s=>(and_intros <;> first | with_reducible rfl | omega | assumption | exact Nat.le_of_ble_eq_true rfl | (simp only [List.length_append, List.length_cons, List.length_nil]; omega) | rfl))<;>(conv=>whnf)) | (((with_reducible refine NIf.decY ?s ?_);case s=>first|with_reducible rfl|assumption|omega)<;>(conv=>whnf)) | (((with_reducible refine NIf.decN ?s ?_);case s=>first|with_reducible rfl|assumption|omega)<;>(conv=>whnf)) | (((with_reducible refine NIf.yes ?s ?_);case s=>first|rfl|assumption)<;>(conv=>whnf)) | (((with_reducible refine NIf.no ?s ?_);case s=>first|rfl|assumption)<;>(conv=>whnf)) | (((with_reducible refine NLd.of (by with_reducible assumption) ?_))<;>(conv=>whnf)) | ((refine NFlat_iff.2 ⟨⟨?s1,?s2⟩,?_⟩;(case s1=>decide +kernel);(case s2=>decide +kernel))<;>(conv=>whnf)) | ((with_reducible first|refine NIf.dec (fun _=>?_) (fun _=>?_)|refine NIf.both (fun _=>?_) (fun _=>?_))<;>(conv=>whnf)) | ((intro _;skip)<;>(conv=>whnf))))
  all_goals rfl
/-! ### Text -/
namespace Mt
def fieldS (f : Nat) (v m : Nat) : List UInt8 := nameB f ++ [32] ++ Lib.itoa v ++ (if (m : Int) = top f then [] else [47] ++ Lib.itoa m)
def partsTo (x : N) : Nat → List (List UInt8)
  | 0 => if x.p = -1 then [] else [[112, 111, 114, 116, 32] ++ Lib.itoa x.p]
  | k + 1 => partsTo x k ++ (if x.m k = 0 then [] else [fieldS k (x.v k) (x.m k)])
def text (x : N) : List UInt8 := if partsTo x 4 = [] then [97, 110, 121] else Lib.join (partsTo x 4) [44, 32]
theorem partsTo_len (x : N) : ∀ k, (partsTo x k).length ≤ k + 1
  | 0 => by unfold partsTo; split <;> simp
  | k + 1 => by
    have := partsTo_len x k
    unfold partsTo
    split <;> simp <;> omega
theorem parts_size {x : N} (hp : -1 ≤ x.p ∧ x.p ≤ 7) (hx : x.lt) : ∀ k, k ≤ 4 → ∀ y ∈ partsTo x k, y.length ≤ 50
  | 0, _, y, hy => by
    have := Lib.itoa_length_le x.p (by omega) (by omega)
    unfold partsTo at hy
    split at hy
    · cases hy
    · rw [List.mem_singleton.1 hy]; simp; omega
  | k + 1, hk, y, hy => by
    unfold partsTo at hy
    rcases List.mem_append.1 hy with h | h
    · exact parts_size hp hx k (by omega) y h
    · split at h
      · cases h
      · rw [List.mem_singleton.1 h]
        obtain ⟨h1, h2⟩ := hx k (by omega)
        have h3 := Lib.itoa_length_le (x.v k) (by omega) (by omega)
        have h4 := Lib.itoa_length_le (x.m k) (by omega) (by omega)
        have h5 : (nameB k).length ≤ 4 := by unfold nameB; split <;> decide
        unfold fieldS
        split <;> simp <;> omega
end Mt
set_option maxHeartbeats 2000000 in
theorem text_raw (F : Heap) (hF : TabF F) (x : Mt.N) (hp : -1 ≤ x.p ∧ x.p ≤ 7) (hx : x.lt) : NCall Tryd.prog 35 [.agg x.toM.av] [hpB F] fun r m => r = .str (Mt.text x) ∧ MemFits m [hpB F] := by
  have hlen := Mt.partsTo_len x 4
  have hsz := Mt.parts_size hp hx 4 (Nat.le_refl _)
  have hv : ∀ f, f < 4 → x.toM.av[1 + f]? = some (.int .i64 (x.v f)) ∧ x.toM.av[5 + f]? = some (.int .i64 (x.m f)) := all4.2 ⟨⟨rfl, rfl⟩, ⟨rfl, rfl⟩, ⟨rfl, rfl⟩, rfl, rfl⟩
  have h0 : x.toM.av[0]? = some (.int .i64 x.p) := rfl
  have hl9 : x.toM.av.length = 9 := rfl
  refine ncall_of Tryd.func35 rfl (by decide) ?_
  generalize x.toM.av = cs at *
  apply st_share1
  case main =>
    intro key
    have hI := Lib.itoa_length_le x.p (by omega) (by omega)
    by_cases hpp : x.p = -1
    · have e0 : Mt.partsTo x 0 = [] := by unfold Mt.partsTo; rw [if_pos hpp]
      (repeat' (first | (with_reducible first|refine z0 ?_|refine z1 ?_|refine z2 ?_|refine z3 ?_|refine z4 ?_|refine z5 ?_|refine z6 ?_|refine z7 ?_|refine z8 ?_|refine z9 ?_|refine z10 ?_|refine z11 ?_|refine z12 ?_|refine z13 ?_|refine z14 ?_|refine z15 ?_|refine z16 ?_|refine z17 ?_|refine z18 ?_|refine z19 ?_|refine z20 ?_|refine z21 ?_|refine z22 ?_|refine z23 ?_|refine z24 ?_) | (((with_reducible first|refine z25 ?_|refine z26 ?_|refine z27 ?_|refine z28 ?_);intro K hK;(conv=>whnf))) | (with_reducible first|(refine hK _ _ ?_;clear hK K)|(refine hA ?_;clear hA hB A B)|(refine hB ?_;clear hA hB A B)|(refine hK _ ?_;clear hK K)) | ((with_reducible refine z29 ?_);intro A B hA hB;(conv=>whnf)) | (refine z30 (by decide) ?_) | ((first|refine z31 rfl ?_|refine z32 rfl ?_|refine z33 rfl ?_);intro K hK;(conv=>whnf)) | (refine z34 (by kernel_rfl) (by kernel_rfl) ?_) | ((refine nthK.of (h0) ?_) <;> (conv=>whnf)) | ((with_reducible refine NCall.isF 81 ?_); (refine NCall.pure (names_c) ?_; rintro _ _ rfl; refine ⟨_, rfl, ?_⟩; (conv=>whnf))) | (((with_reducible first|refine NV.quo ?s ?_|refine NV.rem ?s ?_|refine NV.i64 ?s ?_|refine NV.u32 ?s ?_|refine NV.u8 ?s ?_|refine NV.u64 ?s ?_);case s=>omega)<;>(conv=>whnf)) | ((with_reducible first|refine NV.divk ?_|refine NV.modk ?_|refine NN.lit ?_|refine NN.cast ?_|refine NN.a1 ?_|refine NN.a2 ?_|refine NN.a3 ?_|refine NN.a4 ?_|refine NN.a5 ?_|refine NN.a6 ?_|refine NV.keep ?_|refine NN.keep ?_|refine NS.keep ?_|refine NIf.not_ ?_)<;>(conv=>whnf)) | (((with_reducible refine NH.mk ?s ?_);case s=>(and_intros <;> first | with_reducible rfl | omega | assumption | exact Nat.le_of_ble_eq_true rfl | (simp only [List.length_append, List.length_cons, List.length_nil]; omega) | rfl))<;>(conv=>whnf)) | (((with_reducible refine NIf.decY ?s ?_);case s=>first|with_reducible rfl|assumption|omega)<;>(conv=>whnf)) | (((with_reducible refine NIf.decN ?s ?_);case s=>first|with_reducible rfl|assumption|omega)<;>(conv=>whnf)) | (((with_reducible refine NIf.yes ?s ?_);case s=>first|rfl|assumption)<;>(conv=>whnf)) | (((with_reducible refine NIf.no ?s ?_);case s=>first|rfl|assumption)<;>(conv=>whnf)) | (((with_reducible refine NLd.of (by with_reducible assumption) ?_))<;>(conv=>whnf)) | ((refine NFlat_iff.2 ⟨⟨?s1,?s2⟩,?_⟩;(case s1=>decide +kernel);(case s2=>decide +kernel))<;>(conv=>whnf)) | ((with_reducible first|refine NIf.dec (fun _=>?_) (fun _=>?_)|refine NIf.both (fun _=>?_) (fun _=>?_))<;>(conv=>whnf)) | ((intro _;skip)<;>(conv=>whnf))))
      rename_i b _
      refine st_loop (α := Value × Nat) (fun z => z.2 ≤ 4) (fun z => [.any, .ptr 1 ⟨b, 0, none⟩ 0, .str [], .sl 2 z.1 (Mt.partsTo x z.2).length, .any, .any, .any, .any, .any, .any, .any, .any, .any, .any, .any, .any, .agg [.str (nameB 0), .str (nameB 1), .str (nameB 2), .str (nameB 3)], .int .i64 z.2, .any, .any, .any, .any, .any, .any, .any, .any, .any, .any, .any, .any, .any, .any, .any, .any, .any, .any, .any, .any, .any, .any, .any, .any, .any, .any, .any, .any, .any, .any, .any, .any, .any, .any, .any, .any, .any, .any, .any, .any, .any, .any, .any, .any, .any, .any, .any, .any])
        (fun z => [hpB F, ⟨⟨b, 0, none⟩, cs, .var 24⟩, ⟨addrOf z.1, strAV (Mt.partsTo x z.2), .row z.1 9 1 (Mt.partsTo x z.2).length⟩]) (fun z => 4 - z.2)
        (.slice none 0 0, 0) (Nat.zero_le _) ?_ ?_ (key.is b)
      · dsimp only
        rw [e0]
        repeat (first | exact FitsSl.nil | refine FitsSl.any ?_ | refine FitsSl.cons (Fit1.int (by first | rfl | omega)) ?_ | refine FitsSl.cons (Fit1.bool rfl) ?_ | refine FitsSl.cons (Fit1.str rfl) ?_ | refine FitsSl.cons (Fit1.same (by intro h; cases h) (by with_reducible rfl)) ?_ | refine FitsSl.cons Fit1.nil_sl ?_ | refine FitsSl.cons (Fit1.hs rfl) ?_ | refine FitsSl.cons (Fit1.hp rfl rfl) ?_ | refine FitsSl.cons (Fit1.sl rfl) ?_ | refine FitsSl.cons (Fit1.ptr rfl rfl) ?_ | refine FitsSl.cons Fit1.raw ?_)
      · dsimp only
        rw [e0]
        exact MemFits.nilRow _ _ _
    · have e0 : Mt.partsTo x 0 = [[112, 111, 114, 116, 32] ++ Lib.itoa x.p] := by unfold Mt.partsTo; rw [if_neg hpp]
      (repeat' (first | (with_reducible first|refine z0 ?_|refine z1 ?_|refine z2 ?_|refine z3 ?_|refine z4 ?_|refine z5 ?_|refine z6 ?_|refine z7 ?_|refine z8 ?_|refine z9 ?_|refine z10 ?_|refine z11 ?_|refine z12 ?_|refine z13 ?_|refine z14 ?_|refine z15 ?_|refine z16 ?_|refine z17 ?_|refine z18 ?_|refine z19 ?_|refine z20 ?_|refine z21 ?_|refine z22 ?_|refine z23 ?_|refine z24 ?_) | (((with_reducible first|refine z25 ?_|refine z26 ?_|refine z27 ?_|refine z28 ?_);intro K hK;(conv=>whnf))) | (with_reducible first|(refine hK _ _ ?_;clear hK K)|(refine hA ?_;clear hA hB A B)|(refine hB ?_;clear hA hB A B)|(refine hK _ ?_;clear hK K)) | ((with_reducible refine z29 ?_);intro A B hA hB;(conv=>whnf)) | (refine z30 (by decide) ?_) | ((first|refine z31 rfl ?_|refine z32 rfl ?_|refine z33 rfl ?_);intro K hK;(conv=>whnf)) | (refine z34 (by kernel_rfl) (by kernel_rfl) ?_) | ((refine nthK.of (h0) ?_) <;> (conv=>whnf)) | ((with_reducible refine NCall.isF 81 ?_); (refine NCall.pure (names_c) ?_; rintro _ _ rfl; refine ⟨_, rfl, ?_⟩; (conv=>whnf))) | ((with_reducible refine NCall.isF 80 ?_); (refine NCall.subw [0] _ _ (itoa_c F hF x.p (by omega)) rfl (by decide) rfl ?_; rintro _ _ ⟨rfl, rfl⟩; refine ⟨Nat.le_of_ble_eq_true rfl, _, rfl, ?_⟩; (conv=>whnf))) | (((with_reducible first|refine NV.quo ?s ?_|refine NV.rem ?s ?_|refine NV.i64 ?s ?_|refine NV.u32 ?s ?_|refine NV.u8 ?s ?_|refine NV.u64 ?s ?_);case s=>omega)<;>(conv=>whnf)) | ((with_reducible first|refine NV.divk ?_|refine NV.modk ?_|refine NN.lit ?_|refine NN.cast ?_|refine NN.a1 ?_|refine NN.a2 ?_|refine NN.a3 ?_|refine NN.a4 ?_|refine NN.a5 ?_|refine NN.a6 ?_|refine NV.keep ?_|refine NN.keep ?_|refine NS.keep ?_|refine NIf.not_ ?_)<;>(conv=>whnf)) | (((with_reducible refine NH.mk ?s ?_);case s=>(and_intros <;> first | with_reducible rfl | omega | assumption | exact Nat.le_of_ble_eq_true rfl | (simp only [List.length_append, List.length_cons, List.length_nil]; omega) | rfl))<;>(conv=>whnf)) | (((with_reducible refine NIf.decY ?s ?_);case s=>first|with_reducible rfl|assumption|omega)<;>(conv=>whnf)) | (((with_reducible refine NIf.decN ?s ?_);case s=>first|with_reducible rfl|assumption|omega)<;>(conv=>whnf)) | (((with_reducible refine NIf.yes ?s ?_);case s=>first|rfl|assumption)<;>(conv=>whnf)) | (((with_reducible refine NIf.no ?s ?_);case s=>first|rfl|assumption)<;>(conv=>whnf)) | (((with_reducible refine NLd.of (by with_reducible assumption) ?_))<;>(conv=>whnf)) | ((refine NFlat_iff.2 ⟨⟨?s1,?s2⟩,?_⟩;(case s1=>decide +kernel);(case s2=>decide +kernel))<;>(conv=>whnf)) | ((with_reducible first|refine NIf.dec (fun _=>?_) (fun _=>?_)|refine NIf.both (fun _=>?_) (fun _=>?_))<;>(conv=>whnf)) | ((intro _;skip)<;>(conv=>whnf))))
      rename_i b _ v _
      refine st_loop (α := Value × Nat) (fun z => z.2 ≤ 4) (fun z => [.any, .ptr 1 ⟨b, 0, none⟩ 0, .str [], .sl 2 z.1 (Mt.partsTo x z.2).length, .any, .any, .any, .any, .any, .any, .any, .any, .any, .any, .any, .any, .agg [.str (nameB 0), .str (nameB 1), .str (nameB 2), .str (nameB 3)], .int .i64 z.2, .any, .any, .any, .any, .any, .any, .any, .any, .any, .any, .any, .any, .any, .any, .any, .any, .any, .any, .any, .any, .any, .any, .any, .any, .any, .any, .any, .any, .any, .any, .any, .any, .any, .any, .any, .any, .any, .any, .any, .any, .any, .any, .any, .any, .any, .any, .any, .any])
        (fun z => [hpB F, ⟨⟨b, 0, none⟩, cs, .var 24⟩, ⟨addrOf z.1, strAV (Mt.partsTo x z.2), .row z.1 9 1 (Mt.partsTo x z.2).length⟩]) (fun z => 4 - z.2)
        (v, 0) (Nat.zero_le _) ?_ ?_ (key.is b)
      · dsimp only
        rw [e0]
        repeat (first | exact FitsSl.nil | refine FitsSl.any ?_ | refine FitsSl.cons (Fit1.int (by first | rfl | omega)) ?_ | refine FitsSl.cons (Fit1.bool rfl) ?_ | refine FitsSl.cons (Fit1.str rfl) ?_ | refine FitsSl.cons (Fit1.same (by intro h; cases h) (by with_reducible rfl)) ?_ | refine FitsSl.cons Fit1.nil_sl ?_ | refine FitsSl.cons (Fit1.hs rfl) ?_ | refine FitsSl.cons (Fit1.hp rfl rfl) ?_ | refine FitsSl.cons (Fit1.sl rfl) ?_ | refine FitsSl.cons (Fit1.ptr rfl rfl) ?_ | refine FitsSl.cons Fit1.raw ?_)
      · dsimp only
        rw [e0]
        exact MemFits.trans (MemFits.pick (m' := [_, _, _]) [0, 1, 3] (by decide) rfl) (MemFits.eq (by simp [strAV, repCells, AV.cells]))
  case pf =>
    rintro b ⟨v, k⟩ hk
    dsimp only at hk ⊢
    have hsk : ∀ y ∈ Mt.partsTo x k, y.length ≤ 50 := Mt.parts_size hp hx k hk
    have hlk := Mt.partsTo_len x k
    rcases Nat.lt_or_ge k 4 with hlt | hge
    · have hs : Mt.partsTo x (k + 1) = Mt.partsTo x k ++ (if x.m k = 0 then [] else [Mt.fieldS k (x.v k) (x.m k)]) := rfl
      unfold Mt.fieldS at hs
      obtain ⟨h1, h5⟩ := hv k hlt
      obtain ⟨hv2, hm2⟩ := hx k hlt
      have hnm : [AV.str (nameB 0), AV.str (nameB 1), AV.str (nameB 2), AV.str (nameB 3)][k]? = some (.str (nameB k)) := by
        have : k = 0 ∨ k = 1 ∨ k = 2 ∨ k = 3 := by omega
        rcases this with rfl | rfl | rfl | rfl <;> rfl
      have hnl : (nameB k).length ≤ 4 := by unfold nameB; split <;> decide
      have htop := top_c (k : Int) (by omega)
      generalize hps' : Mt.partsTo x (k + 1) = ps' at hs
      generalize Mt.partsTo x k = ps at *
      generalize x.v k = fv at *
      generalize x.m k = fm at *
      generalize nameB k = nm at hnm hnl hs
      generalize Mt.top (k : Int) = tp at htop hs
      generalize hns : [AV.str (nameB 0), AV.str (nameB 1), AV.str (nameB 2), AV.str (nameB 3)] = ns at hnm ⊢
      have hIv := Lib.itoa_length_le fv (by omega) (by omega)
      have hIm := Lib.itoa_length_le fm (by omega) (by omega)
      (repeat' (first | (refine z35 (by kernel_rfl) _ rfl ?_) | (refine z36 rfl (by kernel_rfl) ?_; intro K hK; (conv=>whnf)) | (refine z37 rfl (by kernel_rfl) ?_; intro K hK; (conv=>whnf)) | (refine z38 rfl (by kernel_rfl) ?_) | (refine z39 rfl rfl (by kernel_rfl) (by intro h; cases h) ?_) | (refine z40 ?_ ?_; (intro K hK; (conv=>whnf))) | (refine z41 ?_ ?_; (intro K hK; (conv=>whnf))) | exact z42 | (with_reducible first|refine z0 ?_|refine z1 ?_|refine z2 ?_|refine z3 ?_|refine z4 ?_|refine z5 ?_|refine z6 ?_|refine z7 ?_|refine z8 ?_|refine z9 ?_|refine z10 ?_|refine z11 ?_|refine z12 ?_|refine z13 ?_|refine z14 ?_|refine z15 ?_|refine z16 ?_|refine z17 ?_|refine z18 ?_|refine z19 ?_|refine z20 ?_|refine z21 ?_|refine z22 ?_|refine z23 ?_|refine z24 ?_) | (((with_reducible first|refine z25 ?_|refine z26 ?_);intro K hK;(conv=>whnf))) | (with_reducible first|(refine hK _ _ ?_;clear hK K)|(refine hA ?_;clear hA hB A B)|(refine hB ?_;clear hA hB A B)|(refine hK _ ?_;clear hK K)) | ((with_reducible refine z29 ?_);intro A B hA hB;(conv=>whnf)) | (refine z30 (by decide) ?_) | ((first|refine z31 rfl ?_|refine z32 rfl ?_|refine z33 rfl ?_);intro K hK;(conv=>whnf)) | ((refine nthK.of (hnm) ?_) <;> (conv=>whnf)) | ((refine nthK.of (h1) ?_) <;> (conv=>whnf)) | ((refine nthK.of (h5) ?_) <;> (conv=>whnf)) | ((with_reducible refine NCall.isF 62 ?_); (refine NCall.pure (htop) ?_; rintro _ _ rfl; refine ⟨_, rfl, ?_⟩; (conv=>whnf))) | ((with_reducible refine NCall.isF 80 ?_); (refine NCall.subw [0] _ _ (itoa_c F hF fv (by omega)) rfl (by decide) rfl ?_; rintro _ _ ⟨rfl, rfl⟩; refine ⟨Nat.le_of_ble_eq_true rfl, _, rfl, ?_⟩; (conv=>whnf))) | ((with_reducible refine NCall.isF 80 ?_); (refine NCall.subw [0] _ _ (itoa_c F hF fm (by omega)) rfl (by decide) rfl ?_; rintro _ _ ⟨rfl, rfl⟩; refine ⟨Nat.le_of_ble_eq_true rfl, _, rfl, ?_⟩; (conv=>whnf))) | (((with_reducible first|refine NV.quo ?s ?_|refine NV.rem ?s ?_|refine NV.i64 ?s ?_|refine NV.u32 ?s ?_|refine NV.u8 ?s ?_|refine NV.u64 ?s ?_);case s=>omega)<;>(conv=>whnf)) | ((with_reducible first|refine NV.divk ?_|refine NV.modk ?_|refine NN.lit ?_|refine NN.cast ?_|refine NN.a1 ?_|refine NN.a2 ?_|refine NN.a3 ?_|refine NN.a4 ?_|refine NN.a5 ?_|refine NN.a6 ?_|refine NV.keep ?_|refine NN.keep ?_|refine NS.keep ?_|refine NIf.not_ ?_)<;>(conv=>whnf)) | (((with_reducible refine NH.mk ?s ?_);case s=>(and_intros <;> first | with_reducible rfl | omega | assumption | exact Nat.le_of_ble_eq_true rfl | (simp only [List.length_append, List.length_cons, List.length_nil]; omega) | rfl))<;>(conv=>whnf)) | (((with_reducible refine NIf.decY ?s ?_);case s=>first|with_reducible rfl|assumption|omega)<;>(conv=>whnf)) | (((with_reducible refine NIf.decN ?s ?_);case s=>first|with_reducible rfl|assumption|omega)<;>(conv=>whnf)) | (((with_reducible refine NIf.yes ?s ?_);case s=>first|rfl|assumption)<;>(conv=>whnf)) | (((with_reducible refine NIf.no ?s ?_);case s=>first|rfl|assumption)<;>(conv=>whnf)) | (((with_reducible refine NLd.of (by with_reducible assumption) ?_))<;>(conv=>whnf)) | ((refine NFlat_iff.2 ⟨⟨?s1,?s2⟩,?_⟩;(case s1=>decide +kernel);(case s2=>decide +kernel))<;>(conv=>whnf)) | ((with_reducible first|refine NIf.dec (fun _=>?_) (fun _=>?_)|refine NIf.both (fun _=>?_) (fun _=>?_))<;>(conv=>whnf)) | ((intro _;skip)<;>(conv=>whnf))))
      all_goals first
        | (have e : Mt.partsTo x (k + 1) = ps := by rw [hps', hs, if_pos (by omega), List.append_nil]
           refine st_round (v, k + 1) hlt (by dsimp only; omega) ?_ (MemFits.eq ?_)
           · dsimp only
             rw [e]
             repeat (first | exact FitsSl.nil | refine FitsSl.any ?_ | refine FitsSl.cons (Fit1.int (by  first | rfl | omega)) ?_ | refine FitsSl.cons (Fit1.int (by first | rfl | omega)) ?_ | refine FitsSl.cons (Fit1.bool rfl) ?_ | refine FitsSl.cons (Fit1.str rfl) ?_ | refine FitsSl.cons (Fit1.same (by intro h; cases h) (by with_reducible rfl)) ?_ | refine FitsSl.cons Fit1.nil_sl ?_ | refine FitsSl.cons (Fit1.hs rfl) ?_ | refine FitsSl.cons (Fit1.hp rfl rfl) ?_ | refine FitsSl.cons (Fit1.sl rfl) ?_ | refine FitsSl.cons (Fit1.ptr rfl rfl) ?_ | refine FitsSl.cons Fit1.raw ?_)
           · dsimp only
             rw [e])
        | (have e : Mt.partsTo x (k + 1) = ps ++ [nm ++ [32] ++ Lib.itoa fv] := by rw [hps', hs, if_neg (by omega), if_pos (by omega), List.append_nil]
           rename_i v2
           refine st_round (v2, k + 1) hlt (by dsimp only; omega) ?_ (MemFits.trans (MemFits.drop [_, _, _] [_]) (MemFits.eq ?_))
           · dsimp only
             rw [e, List.length_append]
             repeat (first | exact FitsSl.nil | refine FitsSl.any ?_ | refine FitsSl.cons (Fit1.int (by  first | rfl | omega)) ?_ | refine FitsSl.cons (Fit1.int (by first | rfl | omega)) ?_ | refine FitsSl.cons (Fit1.bool rfl) ?_ | refine FitsSl.cons (Fit1.str rfl) ?_ | refine FitsSl.cons (Fit1.same (by intro h; cases h) (by with_reducible rfl)) ?_ | refine FitsSl.cons Fit1.nil_sl ?_ | refine FitsSl.cons (Fit1.hs rfl) ?_ | refine FitsSl.cons (Fit1.hp rfl rfl) ?_ | refine FitsSl.cons (Fit1.sl rfl) ?_ | refine FitsSl.cons (Fit1.ptr rfl rfl) ?_ | refine FitsSl.cons Fit1.raw ?_)
           · dsimp only
             rw [e, List.length_append]
             simp [strAV, repCells])
        | (have e : Mt.partsTo x (k + 1) = ps ++ [nm ++ [32] ++ Lib.itoa fv ++ [47] ++ Lib.itoa fm] := by rw [hps', hs, if_neg (by omega), if_neg (by omega)]; simp only [List.append_assoc]
           rename_i v2
           refine st_round (v2, k + 1) hlt (by dsimp only; omega) ?_ (MemFits.trans (MemFits.drop [_, _, _] [_]) (MemFits.eq ?_))
           · dsimp only
             rw [e, List.length_append]
             repeat (first | exact FitsSl.nil | refine FitsSl.any ?_ | refine FitsSl.cons (Fit1.int (by  first | rfl | omega)) ?_ | refine FitsSl.cons (Fit1.int (by first | rfl | omega)) ?_ | refine FitsSl.cons (Fit1.bool rfl) ?_ | refine FitsSl.cons (Fit1.str rfl) ?_ | refine FitsSl.cons (Fit1.same (by intro h; cases h) (by with_reducible rfl)) ?_ | refine FitsSl.cons Fit1.nil_sl ?_ | refine FitsSl.cons (Fit1.hs rfl) ?_ | refine FitsSl.cons (Fit1.hp rfl rfl) ?_ | refine FitsSl.cons (Fit1.sl rfl) ?_ | refine FitsSl.cons (Fit1.ptr rfl rfl) ?_ | refine FitsSl.cons Fit1.raw ?_)
           · dsimp only
             rw [e, List.length_append]
             simp [strAV, repCells])
        | trace_state
    · have e : k = 4 := by omega
      subst e
      have hT : Mt.text x = if Mt.partsTo x 4 = [] then [97, 110, 121] else Lib.join (Mt.partsTo x 4) [44, 32] := rfl
      have hjl := join_len (sep := [44, 32]) hsk
      generalize Mt.partsTo x 4 = ps at *
      generalize Mt.text x = tx at *
      (repeat' (first | (with_reducible first|refine z0 ?_|refine z1 ?_|refine z2 ?_|refine z3 ?_|refine z4 ?_|refine z5 ?_|refine z6 ?_|refine z7 ?_|refine z8 ?_|refine z9 ?_|refine z10 ?_|refine z11 ?_|refine z12 ?_|refine z13 ?_|refine z14 ?_|refine z15 ?_|refine z16 ?_|refine z17 ?_|refine z18 ?_|refine z19 ?_|refine z20 ?_|refine z21 ?_|refine z22 ?_|refine z23 ?_|refine z24 ?_) | (((with_reducible first|refine z25 ?_|refine z26 ?_|refine z27 ?_|refine z28 ?_);intro K hK;(conv=>whnf))) | (with_reducible first|(refine hK _ _ ?_;clear hK K)|(refine hA ?_;clear hA hB A B)|(refine hB ?_;clear hA hB A B)|(refine hK _ ?_;clear hK K)) | ((with_reducible refine z29 ?_);intro A B hA hB;(conv=>whnf)) | (refine z30 (by decide) ?_) | ((first|refine z31 rfl ?_|refine z32 rfl ?_|refine z33 rfl ?_);intro K hK;(conv=>whnf)) | (refine z34 (by kernel_rfl) (by kernel_rfl) ?_) | ((with_reducible refine NCall.isF 82 ?_); (refine (join_own F v ps [44, 32] 9 _ (MemFits.pick (m' := [hpB F, _]) [0, 2] (by decide) rfl) (by simp at hjl; omega) (by omega) 2).mono ?_; rintro _ _ ⟨rfl, rfl⟩; (conv=>whnf))) | (((with_reducible first|refine NV.quo ?s ?_|refine NV.rem ?s ?_|refine NV.i64 ?s ?_|refine NV.u32 ?s ?_|refine NV.u8 ?s ?_|refine NV.u64 ?s ?_);case s=>omega)<;>(conv=>whnf)) | ((with_reducible first|refine NV.divk ?_|refine NV.modk ?_|refine NN.lit ?_|refine NN.cast ?_|refine NN.a1 ?_|refine NN.a2 ?_|refine NN.a3 ?_|refine NN.a4 ?_|refine NN.a5 ?_|refine NN.a6 ?_|refine NV.keep ?_|refine NN.keep ?_|refine NS.keep ?_|refine NIf.not_ ?_)<;>(conv=>whnf)) | (((with_reducible refine NH.mk ?s ?_);case s=>(and_intros <;> first | with_reducible rfl | omega | assumption | exact Nat.le_of_ble_eq_true rfl | (simp only [List.length_append, List.length_cons, List.length_nil]; omega) | rfl))<;>(conv=>whnf)) | (((with_reducible refine NIf.decY ?s ?_);case s=>first|with_reducible rfl|assumption|omega)<;>(conv=>whnf)) | (((with_reducible refine NIf.decN ?s ?_);case s=>first|with_reducible rfl|assumption|omega)<;>(conv=>whnf)) | (((with_reducible refine NIf.yes ?s ?_);case s=>first|rfl|assumption)<;>(conv=>whnf)) | (((with_reducible refine NIf.no ?s ?_);case s=>first|rfl|assumption)<;>(conv=>whnf)) | (((with_reducible refine NLd.of (by with_reducible assumption) ?_))<;>(conv=>whnf)) | ((refine NFlat_iff.2 ⟨⟨?s1,?s2⟩,?_⟩;(case s1=>decide +kernel);(case s2=>decide +kernel))<;>(conv=>whnf)) | ((with_reducible first|refine NIf.dec (fun _=>?_) (fun _=>?_)|refine NIf.both (fun _=>?_) (fun _=>?_))<;>(conv=>whnf)) | ((intro _;skip)<;>(conv=>whnf))))
      · exact ⟨by rw [hT, if_pos (List.eq_nil_of_length_eq_zero (by omega))], MemFits.drop [_] [_, _]⟩
      · exact ⟨by rw [hT, if_neg (fun e => by subst e; contradiction)], MemFits.drop [_] [_, _]⟩
theorem text_c (F : Heap) (hF : TabF F) (x : Mt.N) (hx : x.ok) : NCall Tryd.prog 35 [.agg x.toM.av] [hpB F] fun r m => r = .str (Mt.text x) ∧ m = [hpB F] :=
  (text_raw F hF x hx.1 hx.lt).fits fun r m' h => ⟨r, [hpB F], rfl, h.2, h.1, rfl⟩
end Go.Proofs.YtokbckflleaplaaDoor
