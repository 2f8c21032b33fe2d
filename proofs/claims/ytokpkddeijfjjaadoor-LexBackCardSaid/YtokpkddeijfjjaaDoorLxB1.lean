/-
  The lexer: tokens as text; the text of tokens has the same tokens.
-/
import Derived.Test.YtokpkddeijfjjaaDoorLxW5
import Derived.Test.YtokpkddeijfjjaaDoorLxP2
import Derived.Test.YtokpkddeijfjjaaDoorLib1
namespace Go.Proofs.YtokpkddeijfjjaaDoor
open Go.Sx
set_option maxRecDepth 20000
set_option linter.unusedSimpArgs false
set_option linter.unusedVariables false
set_option maxHeartbeats 2000000
set_option linter.unusedVariables false
namespace Lx
def one (x : T) : List (List UInt8) := if x.k = 2 then [Lib.itoa x.n] else if x.k = 1 ∨ x.k = 3 then [x.s] else []
def i64 (n : Int) : Prop := -9223372036854775808 ≤ n ∧ n ≤ 9223372036854775807
theorem parts_next (l : List T) (k : Nat) (hk : k < l.length) : parts (l.take (k + 1)) = parts (l.take k) ++ one l[k] := by
  rw [List.take_succ_eq_append_getElem hk]
  unfold parts one
  rw [List.flatMap_append]
  simp
theorem parts_few : ∀ (l : List T), (parts l).length ≤ l.length
  | [] => Nat.le_refl _
  | x :: l => by
    have := parts_few l
    unfold parts at *
    rw [List.flatMap_cons, List.length_append, List.length_cons]
    have h1 : (if x.k = 2 then [Lib.itoa x.n] else if x.k = 1 ∨ x.k = 3 then [x.s] else []).length ≤ 1 := by
      split
      · simp
      · split <;> simp
    omega
end Lx
theorem ltext_raw (F : Heap) (hF : TabF F) (v : Value) (l : List Lx.T) (hv : RowF F 4 (fun x vs => vs = Lx.tokV x) v l) (hn : l.length ≤ 1000) (hl : ∀ x ∈ l, Lx.i64 x.n) (hj : (Lib.join (Lx.parts l) [32]).length ≤ 100000) :
    NCall Tryd.prog 23 [.hs v l.length] [hpB F] fun r m => r = .str (Lib.join (Lx.parts l) [32]) ∧ MemFits m [hpB F] := by
  have hok := hv.ok
  refine ncall_of Tryd.func23 rfl (by decide) ?_
  (repeat' (first | (with_reducible first|refine z0 ?_|refine z1 ?_|refine z2 ?_|refine z3 ?_|refine z4 ?_|refine z5 ?_|refine z6 ?_|refine z7 ?_|refine z8 ?_|refine z9 ?_|refine z10 ?_|refine z11 ?_|refine z12 ?_|refine z13 ?_|refine z14 ?_|refine z15 ?_|refine z16 ?_|refine z17 ?_|refine z18 ?_|refine z19 ?_|refine z20 ?_|refine z21 ?_|refine z22 ?_|refine z23 ?_|refine z24 ?_) | (((with_reducible first|refine z25 ?_|refine z26 ?_|refine z27 ?_|refine z28 ?_);intro K hK;(conv=>whnf))) | (with_reducible first|(refine hK _ _ ?_;clear hK K)|(refine hA ?_;clear hA hB A B)|(refine hB ?_;clear hA hB A B)|(refine hK _ ?_;clear hK K)) | ((with_reducible refine z29 ?_);intro A B hA hB;(conv=>whnf)) | (refine z30 (by decide) ?_) | ((first|refine z31 rfl ?_|refine z32 rfl ?_|refine z33 rfl ?_);intro K hK;(conv=>whnf)) | (refine z34 (by kernel_rfl) (by kernel_rfl) ?_) | (((with_reducible first|refine NV.quo ?s ?_|refine NV.rem ?s ?_|refine NV.i64 ?s ?_|refine NV.u32 ?s ?_|refine NV.u8 ?s ?_|refine NV.u64 ?s ?_);case s=>omega)<;>(conv=>whnf)) | ((with_reducible first|refine NV.divk ?_|refine NV.modk ?_|refine NN.lit ?_|refine NN.cast ?_|refine NN.a1 ?_|refine NN.a2 ?_|refine NN.a3 ?_|refine NN.a4 ?_|refine NN.a5 ?_|refine NN.a6 ?_|refine NV.keep ?_|refine NN.keep ?_|refine NS.keep ?_|refine NIf.not_ ?_)<;>(conv=>whnf)) | (((with_reducible refine NH.mk ?s ?_);case s=>(and_intros <;> first | with_reducible rfl | omega | assumption | exact Nat.le_of_ble_eq_true rfl | (simp only [List.length_append, List.length_cons, List.length_nil]; omega) | rfl))<;>(conv=>whnf)) | (((with_reducible refine NIf.decY ?s ?_);case s=>first|with_reducible rfl|assumption|omega)<;>(conv=>whnf)) | (((with_reducible refine NIf.decN ?s ?_);case s=>first|with_reducible rfl|assumption|omega)<;>(conv=>whnf)) | (((with_reducible refine NIf.yes ?s ?_);case s=>first|rfl|assumption)<;>(conv=>whnf)) | (((with_reducible refine NIf.no ?s ?_);case s=>first|rfl|assumption)<;>(conv=>whnf)) | (((with_reducible refine NLd.of (by with_reducible assumption) ?_))<;>(conv=>whnf)) | ((refine NFlat_iff.2 ⟨⟨?s1,?s2⟩,?_⟩;(case s1=>decide +kernel);(case s2=>decide +kernel))<;>(conv=>whnf)) | ((with_reducible first|refine NIf.dec (fun _=>?_) (fun _=>?_)|refine NIf.both (fun _=>?_) (fun _=>?_))<;>(conv=>whnf)) | ((intro _;skip)<;>(conv=>whnf))))
  refine st_auto (α := Value × Nat) (fun (u, k) => k ≤ l.length) (fun (u, k) => [.keep, .keep, .keep, .set (.sl 1 u (Lx.parts (l.take k)).length), .keep, .drop, .keep, .keep, .set (.int .i64 k), .drop, .drop, .drop, .drop, .drop, .drop, .drop, .drop, .drop, .drop, .drop, .drop, .drop, .drop, .drop, .drop, .drop, .drop, .drop, .drop, .drop, .drop, .keep, .keep])
    (fun (u, k) => [.keep, .set ⟨addrOf u, strAV (Lx.parts (l.take k)), .row u 9 1 (Lx.parts (l.take k)).length⟩]) (fun (u, k) => l.length - k) (.slice none 0 0, 0) (Nat.zero_le _) ?_ (MemFits.nilRow [hpB F] _ _) ?_
  · repeat (first | exact FitsSl.nil | refine FitsSl.any ?_ | refine FitsSl.cons (Fit1.int (by first | rfl | omega)) ?_ | refine FitsSl.cons (Fit1.bool rfl) ?_ | refine FitsSl.cons (Fit1.str rfl) ?_ | refine FitsSl.cons (Fit1.same (by intro h; cases h) (by with_reducible rfl)) ?_ | refine FitsSl.cons Fit1.nil_sl ?_ | refine FitsSl.cons (Fit1.hs rfl) ?_ | refine FitsSl.cons (Fit1.hp rfl rfl) ?_ | refine FitsSl.cons (Fit1.sl rfl) ?_ | refine FitsSl.cons (Fit1.ptr rfl rfl) ?_ | refine FitsSl.cons Fit1.raw ?_)
  (intro ⟨u, k⟩ hk; intro K hK; (conv=>whnf); refine hK _ _ ?_; clear hK K)
  by_cases hlt : k < l.length
  · obtain ⟨g0, g1, g2, g3⟩ := hv.get4 hlt
    have hnx := Lx.parts_next l k hlt
    have hfew := Lx.parts_few (l.take k)
    rw [List.length_take] at hfew
    have hmem := List.getElem_mem hlt
    have hx := hl l[k] hmem
    have hi := itoa_c F hF l[k].n hx
    have hpl := strAV_len (Lx.parts (l.take k))
    have ho : Lx.one l[k] = if l[k].k = 2 then [Lib.itoa l[k].n] else if l[k].k = 1 ∨ l[k].k = 3 then [l[k].s] else [] := rfl
    generalize Lx.parts (l.take k) = ps at *
    generalize Lx.one l[k] = on at *
    by_cases h2 : l[k].k = 2
    · rw [if_pos h2] at ho
      subst ho
      (repeat' (first | (refine z35 (by kernel_rfl) _ rfl ?_) | (refine z36 rfl (by kernel_rfl) ?_; intro K hK; (conv=>whnf)) | (refine z37 rfl (by kernel_rfl) ?_; intro K hK; (conv=>whnf)) | (refine z38 rfl (by kernel_rfl) ?_) | (refine z39 rfl rfl (by kernel_rfl) (by intro h; cases h) ?_) | (refine z40 ?_ ?_; (intro K hK; (conv=>whnf))) | (refine z41 ?_ ?_; (intro K hK; (conv=>whnf))) | exact z42 | (with_reducible first|refine z0 ?_|refine z1 ?_|refine z2 ?_|refine z3 ?_|refine z4 ?_|refine z5 ?_|refine z6 ?_|refine z7 ?_|refine z8 ?_|refine z9 ?_|refine z10 ?_|refine z11 ?_|refine z12 ?_|refine z13 ?_|refine z14 ?_|refine z15 ?_|refine z16 ?_|refine z17 ?_|refine z18 ?_|refine z19 ?_|refine z20 ?_|refine z21 ?_|refine z22 ?_|refine z23 ?_|refine z24 ?_) | (((with_reducible first|refine z25 ?_|refine z26 ?_);intro K hK;(conv=>whnf))) | (with_reducible first|(refine hK _ _ ?_;clear hK K)|(refine hA ?_;clear hA hB A B)|(refine hB ?_;clear hA hB A B)|(refine hK _ ?_;clear hK K)) | ((with_reducible refine z29 ?_);intro A B hA hB;(conv=>whnf)) | (refine z30 (by decide) ?_) | ((first|refine z31 rfl ?_|refine z32 rfl ?_|refine z33 rfl ?_);intro K hK;(conv=>whnf)) | ((with_reducible refine NCall.isF 63 ?_); (refine NCall.subw [0] _ _ (hi) rfl (by decide) rfl ?_; rintro _ _ ⟨rfl, rfl⟩; refine ⟨Nat.le_of_ble_eq_true rfl, _, rfl, ?_⟩; (conv=>whnf))) | (((with_reducible first|refine NV.quo ?s ?_|refine NV.rem ?s ?_|refine NV.i64 ?s ?_|refine NV.u32 ?s ?_|refine NV.u8 ?s ?_|refine NV.u64 ?s ?_);case s=>omega)<;>(conv=>whnf)) | ((with_reducible first|refine NV.divk ?_|refine NV.modk ?_|refine NN.lit ?_|refine NN.cast ?_|refine NN.a1 ?_|refine NN.a2 ?_|refine NN.a3 ?_|refine NN.a4 ?_|refine NN.a5 ?_|refine NN.a6 ?_|refine NV.keep ?_|refine NN.keep ?_|refine NS.keep ?_|refine NIf.not_ ?_)<;>(conv=>whnf)) | (((with_reducible refine NH.mk ?s ?_);case s=>(and_intros <;> first | with_reducible rfl | omega | assumption | exact Nat.le_of_ble_eq_true rfl | (simp only [List.length_append, List.length_cons, List.length_nil]; omega) | rfl))<;>(conv=>whnf)) | (((with_reducible refine NIf.decY ?s ?_);case s=>first|with_reducible rfl|assumption|omega)<;>(conv=>whnf)) | (((with_reducible refine NIf.decN ?s ?_);case s=>first|with_reducible rfl|assumption|omega)<;>(conv=>whnf)) | (((with_reducible refine NIf.yes ?s ?_);case s=>first|rfl|assumption)<;>(conv=>whnf)) | (((with_reducible refine NIf.no ?s ?_);case s=>first|rfl|assumption)<;>(conv=>whnf)) | (((with_reducible refine NLd.of (by with_reducible assumption) ?_))<;>(conv=>whnf)) | ((refine NFlat_iff.2 ⟨⟨?s1,?s2⟩,?_⟩;(case s1=>decide +kernel);(case s2=>decide +kernel))<;>(conv=>whnf)) | ((with_reducible first|refine NIf.dec (fun _=>?_) (fun _=>?_)|refine NIf.both (fun _=>?_) (fun _=>?_))<;>(conv=>whnf)) | ((intro _;skip)<;>(conv=>whnf))))
      rename_i b1 b2 v2
      refine st_round (v2, k + 1) hlt (by dsimp only; omega) ?_ (MemFits.pre 2 ?_)
      · repeat (first | exact FitsSl.nil | refine FitsSl.any ?_ | refine FitsSl.cons (Fit1.int (by first | rfl | omega)) ?_ | refine FitsSl.cons (Fit1.bool rfl) ?_ | refine FitsSl.cons (Fit1.str rfl) ?_ | refine FitsSl.cons (Fit1.same (by intro h; cases h) (by with_reducible rfl)) ?_ | refine FitsSl.cons Fit1.nil_sl ?_ | refine FitsSl.cons (Fit1.hs rfl) ?_ | refine FitsSl.cons (Fit1.hp rfl rfl) ?_ | refine FitsSl.cons (Fit1.sl rfl) ?_ | refine FitsSl.cons (Fit1.ptr rfl rfl) ?_ | refine FitsSl.cons Fit1.raw ?_)
      · simp only [autoM, List.take]
        rw [hnx]
        simp [strAV, repCells]
    · rw [if_neg h2] at ho
      by_cases h1 : l[k].k = 1 ∨ l[k].k = 3
      · rw [if_pos h1] at ho
        subst ho
        (repeat' (first | (with_reducible first|refine z0 ?_|refine z1 ?_|refine z2 ?_|refine z3 ?_|refine z4 ?_|refine z5 ?_|refine z6 ?_|refine z7 ?_|refine z8 ?_|refine z9 ?_|refine z10 ?_|refine z11 ?_|refine z12 ?_|refine z13 ?_|refine z14 ?_|refine z15 ?_|refine z16 ?_|refine z17 ?_|refine z18 ?_|refine z19 ?_|refine z20 ?_|refine z21 ?_|refine z22 ?_|refine z23 ?_|refine z24 ?_) | (((with_reducible first|refine z25 ?_|refine z26 ?_|refine z27 ?_|refine z28 ?_);intro K hK;(conv=>whnf))) | (with_reducible first|(refine hK _ _ ?_;clear hK K)|(refine hA ?_;clear hA hB A B)|(refine hB ?_;clear hA hB A B)|(refine hK _ ?_;clear hK K)) | ((with_reducible refine z29 ?_);intro A B hA hB;(conv=>whnf)) | (refine z30 (by decide) ?_) | ((first|refine z31 rfl ?_|refine z32 rfl ?_|refine z33 rfl ?_);intro K hK;(conv=>whnf)) | (refine z34 (by kernel_rfl) (by kernel_rfl) ?_) | (((with_reducible first|refine NV.quo ?s ?_|refine NV.rem ?s ?_|refine NV.i64 ?s ?_|refine NV.u32 ?s ?_|refine NV.u8 ?s ?_|refine NV.u64 ?s ?_);case s=>omega)<;>(conv=>whnf)) | ((with_reducible first|refine NV.divk ?_|refine NV.modk ?_|refine NN.lit ?_|refine NN.cast ?_|refine NN.a1 ?_|refine NN.a2 ?_|refine NN.a3 ?_|refine NN.a4 ?_|refine NN.a5 ?_|refine NN.a6 ?_|refine NV.keep ?_|refine NN.keep ?_|refine NS.keep ?_|refine NIf.not_ ?_)<;>(conv=>whnf)) | (((with_reducible refine NH.mk ?s ?_);case s=>(and_intros <;> first | with_reducible rfl | omega | assumption | exact Nat.le_of_ble_eq_true rfl | (simp only [List.length_append, List.length_cons, List.length_nil]; omega) | rfl))<;>(conv=>whnf)) | (((with_reducible refine NIf.decY ?s ?_);case s=>first|with_reducible rfl|assumption|omega)<;>(conv=>whnf)) | (((with_reducible refine NIf.decN ?s ?_);case s=>first|with_reducible rfl|assumption|omega)<;>(conv=>whnf)) | (((with_reducible refine NIf.yes ?s ?_);case s=>first|rfl|assumption)<;>(conv=>whnf)) | (((with_reducible refine NIf.no ?s ?_);case s=>first|rfl|assumption)<;>(conv=>whnf)) | (((with_reducible refine NLd.of (by with_reducible assumption) ?_))<;>(conv=>whnf)) | ((refine NFlat_iff.2 ⟨⟨?s1,?s2⟩,?_⟩;(case s1=>decide +kernel);(case s2=>decide +kernel))<;>(conv=>whnf)) | ((with_reducible first|refine NIf.dec (fun _=>?_) (fun _=>?_)|refine NIf.both (fun _=>?_) (fun _=>?_))<;>(conv=>whnf)) | ((intro _;skip)<;>(conv=>whnf))))
        all_goals
          rename_i v2
          refine st_round (v2, k + 1) hlt (by dsimp only; omega) ?_ (MemFits.pre 2 ?_)
          · repeat (first | exact FitsSl.nil | refine FitsSl.any ?_ | refine FitsSl.cons (Fit1.int (by first | rfl | omega)) ?_ | refine FitsSl.cons (Fit1.bool rfl) ?_ | refine FitsSl.cons (Fit1.str rfl) ?_ | refine FitsSl.cons (Fit1.same (by intro h; cases h) (by with_reducible rfl)) ?_ | refine FitsSl.cons Fit1.nil_sl ?_ | refine FitsSl.cons (Fit1.hs rfl) ?_ | refine FitsSl.cons (Fit1.hp rfl rfl) ?_ | refine FitsSl.cons (Fit1.sl rfl) ?_ | refine FitsSl.cons (Fit1.ptr rfl rfl) ?_ | refine FitsSl.cons Fit1.raw ?_)
          · simp only [autoM, List.take]
            rw [hnx]
            simp [strAV, repCells]
      · rw [if_neg h1] at ho
        subst ho
        (repeat' (first | (with_reducible first|refine z0 ?_|refine z1 ?_|refine z2 ?_|refine z3 ?_|refine z4 ?_|refine z5 ?_|refine z6 ?_|refine z7 ?_|refine z8 ?_|refine z9 ?_|refine z10 ?_|refine z11 ?_|refine z12 ?_|refine z13 ?_|refine z14 ?_|refine z15 ?_|refine z16 ?_|refine z17 ?_|refine z18 ?_|refine z19 ?_|refine z20 ?_|refine z21 ?_|refine z22 ?_|refine z23 ?_|refine z24 ?_) | (((with_reducible first|refine z25 ?_|refine z26 ?_|refine z27 ?_|refine z28 ?_);intro K hK;(conv=>whnf))) | (with_reducible first|(refine hK _ _ ?_;clear hK K)|(refine hA ?_;clear hA hB A B)|(refine hB ?_;clear hA hB A B)|(refine hK _ ?_;clear hK K)) | ((with_reducible refine z29 ?_);intro A B hA hB;(conv=>whnf)) | (refine z30 (by decide) ?_) | ((first|refine z31 rfl ?_|refine z32 rfl ?_|refine z33 rfl ?_);intro K hK;(conv=>whnf)) | (refine z34 (by kernel_rfl) (by kernel_rfl) ?_) | (((with_reducible first|refine NV.quo ?s ?_|refine NV.rem ?s ?_|refine NV.i64 ?s ?_|refine NV.u32 ?s ?_|refine NV.u8 ?s ?_|refine NV.u64 ?s ?_);case s=>omega)<;>(conv=>whnf)) | ((with_reducible first|refine NV.divk ?_|refine NV.modk ?_|refine NN.lit ?_|refine NN.cast ?_|refine NN.a1 ?_|refine NN.a2 ?_|refine NN.a3 ?_|refine NN.a4 ?_|refine NN.a5 ?_|refine NN.a6 ?_|refine NV.keep ?_|refine NN.keep ?_|refine NS.keep ?_|refine NIf.not_ ?_)<;>(conv=>whnf)) | (((with_reducible refine NH.mk ?s ?_);case s=>(and_intros <;> first | with_reducible rfl | omega | assumption | exact Nat.le_of_ble_eq_true rfl | (simp only [List.length_append, List.length_cons, List.length_nil]; omega) | rfl))<;>(conv=>whnf)) | (((with_reducible refine NIf.decY ?s ?_);case s=>first|with_reducible rfl|assumption|omega)<;>(conv=>whnf)) | (((with_reducible refine NIf.decN ?s ?_);case s=>first|with_reducible rfl|assumption|omega)<;>(conv=>whnf)) | (((with_reducible refine NIf.yes ?s ?_);case s=>first|rfl|assumption)<;>(conv=>whnf)) | (((with_reducible refine NIf.no ?s ?_);case s=>first|rfl|assumption)<;>(conv=>whnf)) | (((with_reducible refine NLd.of (by with_reducible assumption) ?_))<;>(conv=>whnf)) | ((refine NFlat_iff.2 ⟨⟨?s1,?s2⟩,?_⟩;(case s1=>decide +kernel);(case s2=>decide +kernel))<;>(conv=>whnf)) | ((with_reducible first|refine NIf.dec (fun _=>?_) (fun _=>?_)|refine NIf.both (fun _=>?_) (fun _=>?_))<;>(conv=>whnf)) | ((intro _;skip)<;>(conv=>whnf))))
        all_goals
          refine st_round (u, k + 1) hlt (by dsimp only; omega) ?_ (MemFits.pre 2 ?_)
          · repeat (first | exact FitsSl.nil | refine FitsSl.any ?_ | refine FitsSl.cons (Fit1.int (by first | rfl | omega)) ?_ | refine FitsSl.cons (Fit1.bool rfl) ?_ | refine FitsSl.cons (Fit1.str rfl) ?_ | refine FitsSl.cons (Fit1.same (by intro h; cases h) (by with_reducible rfl)) ?_ | refine FitsSl.cons Fit1.nil_sl ?_ | refine FitsSl.cons (Fit1.hs rfl) ?_ | refine FitsSl.cons (Fit1.hp rfl rfl) ?_ | refine FitsSl.cons (Fit1.sl rfl) ?_ | refine FitsSl.cons (Fit1.ptr rfl rfl) ?_ | refine FitsSl.cons Fit1.raw ?_)
          · simp only [autoM, List.take]
            rw [hnx]
            simp [strAV]
  · have e : k = l.length := by omega
    subst e
    rw [List.take_length]
    have hfew := Lx.parts_few l
    have hjo := fun m hm => join_own F u (Lx.parts l) [32] 9 m hm (by omega) (by omega) 1
    generalize Lx.parts l = ps at *
    (repeat' (first | (with_reducible first|refine z0 ?_|refine z1 ?_|refine z2 ?_|refine z3 ?_|refine z4 ?_|refine z5 ?_|refine z6 ?_|refine z7 ?_|refine z8 ?_|refine z9 ?_|refine z10 ?_|refine z11 ?_|refine z12 ?_|refine z13 ?_|refine z14 ?_|refine z15 ?_|refine z16 ?_|refine z17 ?_|refine z18 ?_|refine z19 ?_|refine z20 ?_|refine z21 ?_|refine z22 ?_|refine z23 ?_|refine z24 ?_) | (((with_reducible first|refine z25 ?_|refine z26 ?_|refine z27 ?_|refine z28 ?_);intro K hK;(conv=>whnf))) | (with_reducible first|(refine hK _ _ ?_;clear hK K)|(refine hA ?_;clear hA hB A B)|(refine hB ?_;clear hA hB A B)|(refine hK _ ?_;clear hK K)) | ((with_reducible refine z29 ?_);intro A B hA hB;(conv=>whnf)) | (refine z30 (by decide) ?_) | ((first|refine z31 rfl ?_|refine z32 rfl ?_|refine z33 rfl ?_);intro K hK;(conv=>whnf)) | (refine z34 (by kernel_rfl) (by kernel_rfl) ?_) | ((with_reducible refine NCall.isF 64 ?_); (refine (hjo _ (MemFits.eq rfl)).mono ?_; rintro _ _ ⟨rfl, rfl⟩; (conv=>whnf))) | (((with_reducible first|refine NV.quo ?s ?_|refine NV.rem ?s ?_|refine NV.i64 ?s ?_|refine NV.u32 ?s ?_|refine NV.u8 ?s ?_|refine NV.u64 ?s ?_);case s=>omega)<;>(conv=>whnf)) | ((with_reducible first|refine NV.divk ?_|refine NV.modk ?_|refine NN.lit ?_|refine NN.cast ?_|refine NN.a1 ?_|refine NN.a2 ?_|refine NN.a3 ?_|refine NN.a4 ?_|refine NN.a5 ?_|refine NN.a6 ?_|refine NV.keep ?_|refine NN.keep ?_|refine NS.keep ?_|refine NIf.not_ ?_)<;>(conv=>whnf)) | (((with_reducible refine NH.mk ?s ?_);case s=>(and_intros <;> first | with_reducible rfl | omega | assumption | exact Nat.le_of_ble_eq_true rfl | (simp only [List.length_append, List.length_cons, List.length_nil]; omega) | rfl))<;>(conv=>whnf)) | (((with_reducible refine NIf.decY ?s ?_);case s=>first|with_reducible rfl|assumption|omega)<;>(conv=>whnf)) | (((with_reducible refine NIf.decN ?s ?_);case s=>first|with_reducible rfl|assumption|omega)<;>(conv=>whnf)) | (((with_reducible refine NIf.yes ?s ?_);case s=>first|rfl|assumption)<;>(conv=>whnf)) | (((with_reducible refine NIf.no ?s ?_);case s=>first|rfl|assumption)<;>(conv=>whnf)) | (((with_reducible refine NLd.of (by with_reducible assumption) ?_))<;>(conv=>whnf)) | ((refine NFlat_iff.2 ⟨⟨?s1,?s2⟩,?_⟩;(case s1=>decide +kernel);(case s2=>decide +kernel))<;>(conv=>whnf)) | ((with_reducible first|refine NIf.dec (fun _=>?_) (fun _=>?_)|refine NIf.both (fun _=>?_) (fun _=>?_))<;>(conv=>whnf)) | ((intro _;skip)<;>(conv=>whnf))))
    all_goals exact ⟨rfl, MemFits.drop [_] [_]⟩
theorem ltext_c (F : Heap) (hF : TabF F) (v : Value) (l : List Lx.T) (hv : RowF F 4 (fun x vs => vs = Lx.tokV x) v l) (hn : l.length ≤ 1000) (hl : ∀ x ∈ l, Lx.i64 x.n) (hj : (Lib.join (Lx.parts l) [32]).length ≤ 100000) :
    NCall Tryd.prog 23 [.hs v l.length] [hpB F] fun r m => r = .str (Lib.join (Lx.parts l) [32]) ∧ m = [hpB F] :=
  (ltext_raw F hF v l hv hn hl hj).fits fun r m' h => ⟨r, _, rfl, h.2, h.1, rfl⟩
theorem ltext_own (F : Heap) (hF : TabF F) (u : Value) (x : Lx.T) (m : List Blk) (j : Nat) (hm : MemFits m [hpB F, ⟨addrOf u, Lx.tokC x, .row u 53 4 1⟩]) (hl : Lx.i64 x.n) (hj : (Lib.join (Lx.parts [x]) [32]).length ≤ 100000) :
    NCall Tryd.prog 23 [.sl j u 1] m fun r m' => r = .str (Lib.join (Lx.parts [x]) [32]) ∧ m' = m := by
  refine NCall.frozen (l := [x]) (args' := [.hs u 1]) Lx.tokV (ltext_c F hF (.slice none 0 0) [] RowF.nil (by decide) (fun _ h => by cases h) (by decide)) rfl hm rfl rfl (fun y _ => rfl) fun G hG hrow => ?_
  exact (ltext_c G (hF.mono hG) u [x] hrow (by simp) (fun y hy => by rw [List.mem_singleton.1 hy]; exact hl) hj).mono fun r m' h => ⟨h.1, rfl⟩
end Go.Proofs.YtokpkddeijfjjaaDoor
