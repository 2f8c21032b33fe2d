/-
  Acts that nobody sees, left out: walked.
-/
import Derived.Test.YtokbckflleaplaaDoorAc6
import Derived.Test.YtokbckflleaplaaDoorAc2
import Derived.Test.YtokbckflleaplaaDoorAc4d
import Derived.Test.YtokbckflleaplaaDoorAc5
import Derived.Test.YtokbckflleaplaaDoorLib2
import Derived.Test.YtokbckflleaplaaDoorSxH
namespace Go.Proofs.YtokbckflleaplaaDoor
open Go.Sx
set_option maxRecDepth 20000
set_option linter.unusedSimpArgs false
set_option linter.unusedVariables false
set_option linter.unusedVariables false
/-! ### Turned round -/
namespace Ac
/-- Behind t exchanges. -/
def rv (l : List A) : Nat → List A
  | 0 => l
  | t + 1 => (rv l t).set t ((rv l t).getD (l.length - 1 - t) ⟨0, 0, 0⟩) |>.set (l.length - 1 - t) ((rv l t).getD t ⟨0, 0, 0⟩)
theorem rv_len (l : List A) : ∀ t, (rv l t).length = l.length
  | 0 => rfl
  | t + 1 => by simp [rv, rv_len l t]
theorem rv_at (l : List A) : ∀ t, 2 * t ≤ l.length → ∀ p, p < l.length → (rv l t)[p]? = if p < t ∨ l.length - t ≤ p then l[l.length - 1 - p]? else l[p]?
  | 0, _, p, hp => by rw [if_neg (by omega)]; rfl
  | t + 1, h, p, hp => by
    have ih := rv_at l t (by omega)
    have hl := rv_len l t
    have e1 : (rv l t).getD (l.length - 1 - t) ⟨0, 0, 0⟩ = l[l.length - 1 - t]'(by omega) := by
      rw [List.getD_eq_getElem?_getD, ih _ (by omega), if_neg (by omega), List.getElem?_eq_getElem (by omega)]; rfl
    have e2 : (rv l t).getD t ⟨0, 0, 0⟩ = l[t]'(by omega) := by
      rw [List.getD_eq_getElem?_getD, ih _ (by omega), if_neg (by omega), List.getElem?_eq_getElem (by omega)]; rfl
    rw [rv, e1, e2, List.getElem?_set, List.getElem?_set]
    simp only [List.length_set, hl]
    by_cases h1 : l.length - 1 - t = p
    · subst h1
      rw [if_pos rfl, if_pos (by omega), if_pos (by omega), show l.length - 1 - (l.length - 1 - t) = t by omega, List.getElem?_eq_getElem (by omega)]
    · rw [if_neg h1]
      by_cases h2 : t = p
      · subst h2
        rw [if_pos rfl, if_pos (by omega), if_pos (by omega), List.getElem?_eq_getElem (by omega)]
      · rw [if_neg h2, ih p hp]
        by_cases h3 : p < t ∨ l.length - t ≤ p
        · rw [if_pos h3, if_pos (by omega)]
        · rw [if_neg h3, if_neg (by omega)]
theorem rv_end (l : List A) (t : Nat) (h1 : 2 * t ≤ l.length) (h2 : l.length ≤ 2 * t + 1) : rv l t = l.reverse := by
  refine List.ext_getElem? fun p => ?_
  by_cases hp : p < l.length
  · rw [rv_at l t h1 p hp, List.getElem?_reverse hp]
    split
    · rfl
    · rw [show l.length - 1 - p = p by omega]
  · rw [List.getElem?_eq_none (by rw [rv_len]; omega), List.getElem?_eq_none (by simp; omega)]
theorem avs_split (l : List A) (i : Nat) : (avs l).take (i * 3) = avs (l.take i) ∧ (avs l).drop (i * 3) = avs (l.drop i) := by
  induction l generalizing i with
  | nil => simp [avs]
  | cons x l ih =>
    cases i with
    | zero => simp [avs]
    | succ i =>
      have e : avs (x :: l) = .int .i64 x.k :: .int .i64 x.f :: .int .i64 x.v :: avs l := by simp [avs, A.av]
      rw [e, show (i + 1) * 3 = i * 3 + 1 + 1 + 1 by omega]
      simp only [List.take_succ_cons, List.drop_succ_cons, (ih i).1, (ih i).2]
      simp [avs, A.av]
theorem avs_cons (x : A) (l : List A) : avs (x :: l) = .int .i64 x.k :: .int .i64 x.f :: .int .i64 x.v :: avs l := by simp [avs, A.av]
theorem avs_get {l : List A} {i : Nat} {x : A} (h : l[i]? = some x) : i * 3 + 3 ≤ (avs l).length ∧ ((avs l).drop (i * 3)).take 3 = [.int .i64 x.k, .int .i64 x.f, .int .i64 x.v] := by
  obtain ⟨hi, rfl⟩ := List.getElem?_eq_some_iff.1 h
  refine ⟨by rw [avs_len]; omega, ?_⟩
  rw [(avs_split l i).2, List.drop_eq_getElem_cons hi, avs_cons]
  rfl
theorem avs_put {l : List A} {i : Nat} {x : A} (h : i < l.length) : (avs l).take (i * 3) ++ [.int .i64 x.k, .int .i64 x.f, .int .i64 x.v] ++ (avs l).drop (i * 3 + 3) = avs (l.set i x) := by
  rw [show i * 3 + 3 = (i + 1) * 3 by omega, (avs_split l i).1, (avs_split l (i + 1)).2, List.set_eq_take_append_cons_drop, if_pos h]
  simp [avs, A.av]
end Ac
theorem cellsK_avs {l : List Ac.A} {i : Nat} {x : Ac.A} {K : List AV → Prop} (h : l[i]? = some x) (hK : K [.int .i64 x.k, .int .i64 x.f, .int .i64 x.v]) : cellsK (Ac.avs l) (i * 3) 3 K :=
  cellsK.of (Ac.avs_get h).1 (Ac.avs_get h).2 hK
theorem putK_avs {l : List Ac.A} {i : Nat} {x : Ac.A} {K : List AV → Prop} (h : i < l.length) (hK : K (Ac.avs (l.set i x))) : putK (Ac.avs l) (i * 3) [.int .i64 x.k, .int .i64 x.f, .int .i64 x.v] K :=
  putK.of (by rw [Ac.avs_len]; simp; omega) (by rw [← Ac.avs_put (x := x) h] at hK; exact hK)
set_option maxHeartbeats 4000000 in
theorem reverse9_c (u : Value) (l : List Ac.A) (hn : l.length ≤ 1000) :
    NCall Tryd.prog 86 [.sl 0 u l.length] [actRow u l] fun r m => r = .tup [] ∧ m = [actRow u l.reverse] := by
  refine ncall_of Tryd.func86 rfl (by decide) ?_
  have hend := fun t => Ac.rv_end l t
  have hlen := Ac.rv_len l
  unfold actRow
  (repeat' (first | (with_reducible first|refine z0 ?_|refine z1 ?_|refine z2 ?_|refine z3 ?_|refine z4 ?_|refine z5 ?_|refine z6 ?_|refine z7 ?_|refine z8 ?_|refine z9 ?_|refine z10 ?_|refine z11 ?_|refine z12 ?_|refine z13 ?_|refine z14 ?_|refine z15 ?_|refine z16 ?_|refine z17 ?_|refine z18 ?_|refine z19 ?_|refine z20 ?_|refine z21 ?_|refine z22 ?_|refine z23 ?_|refine z24 ?_) | (((with_reducible first|refine z25 ?_|refine z26 ?_|refine z27 ?_|refine z28 ?_);intro K hK;(conv=>whnf))) | (with_reducible first|(refine hK _ _ ?_;clear hK K)|(refine hA ?_;clear hA hB A B)|(refine hB ?_;clear hA hB A B)|(refine hK _ ?_;clear hK K)) | ((with_reducible refine z29 ?_);intro A B hA hB;(conv=>whnf)) | (refine z30 (by decide) ?_) | ((first|refine z31 rfl ?_|refine z32 rfl ?_|refine z33 rfl ?_);intro K hK;(conv=>whnf)) | (refine z34 (by kernel_rfl) (by kernel_rfl) ?_) | (((with_reducible first|refine NV.quo ?s ?_|refine NV.rem ?s ?_|refine NV.i64 ?s ?_|refine NV.u32 ?s ?_|refine NV.u8 ?s ?_|refine NV.u64 ?s ?_);case s=>omega)<;>(conv=>whnf)) | ((with_reducible first|refine NV.divk ?_|refine NV.modk ?_|refine NN.lit ?_|refine NN.cast ?_|refine NN.a1 ?_|refine NN.a2 ?_|refine NN.a3 ?_|refine NN.a4 ?_|refine NN.a5 ?_|refine NN.a6 ?_|refine NV.keep ?_|refine NN.keep ?_|refine NS.keep ?_|refine NIf.not_ ?_)<;>(conv=>whnf)) | (((with_reducible refine NH.mk ?s ?_);case s=>(and_intros <;> first | with_reducible rfl | omega | assumption | exact Nat.le_of_ble_eq_true rfl | (simp only [List.length_append, List.length_cons, List.length_nil]; omega) | rfl))<;>(conv=>whnf)) | (((with_reducible refine NIf.decY ?s ?_);case s=>first|with_reducible rfl|assumption|omega)<;>(conv=>whnf)) | (((with_reducible refine NIf.decN ?s ?_);case s=>first|with_reducible rfl|assumption|omega)<;>(conv=>whnf)) | (((with_reducible refine NIf.yes ?s ?_);case s=>first|rfl|assumption)<;>(conv=>whnf)) | (((with_reducible refine NIf.no ?s ?_);case s=>first|rfl|assumption)<;>(conv=>whnf)) | (((with_reducible refine NLd.of (by with_reducible assumption) ?_))<;>(conv=>whnf)) | ((refine NFlat_iff.2 ⟨⟨?s1,?s2⟩,?_⟩;(case s1=>decide +kernel);(case s2=>decide +kernel))<;>(conv=>whnf)) | ((with_reducible first|refine NIf.dec (fun _=>?_) (fun _=>?_)|refine NIf.both (fun _=>?_) (fun _=>?_))<;>(conv=>whnf)) | ((intro _;skip)<;>(conv=>whnf))))
  refine st_auto (α := Nat) (fun t => 2 * t ≤ l.length) (fun t => [.keep, .keep, .set (.int .i64 t), .set (.int .i64 (l.length - 1 - t)), .keep, .keep, .keep, .drop, .drop, .drop, .drop, .drop, .drop, .drop, .drop, .drop, .drop, .drop, .drop, .drop, .drop, .drop, .drop, .drop, .drop, .drop, .drop, .drop]) (fun t => [.set ⟨addrOf u, Ac.avs (Ac.rv l t), .row u 40 3 l.length⟩]) (fun t => l.length - t) 0 (by omega) ?_ (MemFits.eq rfl) ?_
  · repeat (first | exact FitsSl.nil | refine FitsSl.any ?_ | refine FitsSl.cons (Fit1.int (by first | rfl | omega)) ?_ | refine FitsSl.cons (Fit1.bool rfl) ?_ | refine FitsSl.cons (Fit1.str rfl) ?_ | refine FitsSl.cons (Fit1.same (by intro h; cases h) (by with_reducible rfl)) ?_ | refine FitsSl.cons Fit1.nil_sl ?_ | refine FitsSl.cons (Fit1.hs rfl) ?_ | refine FitsSl.cons (Fit1.hp rfl rfl) ?_ | refine FitsSl.cons (Fit1.sl rfl) ?_ | refine FitsSl.cons (Fit1.ptr rfl rfl) ?_ | refine FitsSl.cons Fit1.raw ?_)
  (intro t ht; intro K hK; (conv=>whnf); refine hK _ _ ?_; clear hK K)
  have hl := hlen t
  by_cases hlt : 2 * t + 1 < l.length
  · obtain ⟨j, hj⟩ : ∃ j : Nat, j = l.length - 1 - t := ⟨_, rfl⟩
    have hji : (l.length - 1 - t : Int) = j := by omega
    have hnx : Ac.rv l (t + 1) = ((Ac.rv l t).set t ((Ac.rv l t).getD (l.length - 1 - t) ⟨0, 0, 0⟩)).set (l.length - 1 - t) ((Ac.rv l t).getD t ⟨0, 0, 0⟩) := rfl
    rw [hji]
    rw [← hj] at hnx
    have hi : (Ac.rv l t)[t]? = some ((Ac.rv l t).getD t ⟨0, 0, 0⟩) := by rw [List.getD_eq_getElem?_getD, List.getElem?_eq_getElem (by omega)]; rfl
    have hjx : (Ac.rv l t)[j]? = some ((Ac.rv l t).getD j ⟨0, 0, 0⟩) := by rw [List.getD_eq_getElem?_getD, List.getElem?_eq_getElem (by omega)]; rfl
    generalize (Ac.rv l t).getD t ⟨0, 0, 0⟩ = x at *
    generalize (Ac.rv l t).getD j ⟨0, 0, 0⟩ = y at *
    generalize Ac.rv l t = L at *
    (repeat' (first | (refine z35 (by kernel_rfl) _ rfl ?_) | (refine z36 rfl (by kernel_rfl) ?_; intro K hK; (conv=>whnf)) | (refine z37 rfl (by kernel_rfl) ?_; intro K hK; (conv=>whnf)) | (refine z38 rfl (by kernel_rfl) ?_) | (refine z39 rfl rfl (by kernel_rfl) (by intro h; cases h) ?_) | (refine z40 ?_ ?_; (intro K hK; (conv=>whnf))) | (refine z41 ?_ ?_; (intro K hK; (conv=>whnf))) | exact z42 | (refine cellsK_avs hi ?_; conv=>whnf) | (refine cellsK_avs hjx ?_; conv=>whnf) | (refine putK_avs (by first | omega | (simp only [List.length_set]; omega)) ?_; conv=>whnf) | (with_reducible first|refine z0 ?_|refine z1 ?_|refine z2 ?_|refine z3 ?_|refine z4 ?_|refine z5 ?_|refine z6 ?_|refine z7 ?_|refine z8 ?_|refine z9 ?_|refine z10 ?_|refine z11 ?_|refine z12 ?_|refine z13 ?_|refine z14 ?_|refine z15 ?_|refine z16 ?_|refine z17 ?_|refine z18 ?_|refine z19 ?_|refine z20 ?_|refine z21 ?_|refine z22 ?_|refine z23 ?_|refine z24 ?_) | (((with_reducible first|refine z25 ?_|refine z26 ?_);intro K hK;(conv=>whnf))) | (with_reducible first|(refine hK _ _ ?_;clear hK K)|(refine hA ?_;clear hA hB A B)|(refine hB ?_;clear hA hB A B)|(refine hK _ ?_;clear hK K)) | ((with_reducible refine z29 ?_);intro A B hA hB;(conv=>whnf)) | (refine z30 (by decide) ?_) | ((first|refine z31 rfl ?_|refine z32 rfl ?_|refine z33 rfl ?_);intro K hK;(conv=>whnf)) | (((with_reducible first|refine NV.quo ?s ?_|refine NV.rem ?s ?_|refine NV.i64 ?s ?_|refine NV.u32 ?s ?_|refine NV.u8 ?s ?_|refine NV.u64 ?s ?_);case s=>omega)<;>(conv=>whnf)) | ((with_reducible first|refine NV.divk ?_|refine NV.modk ?_|refine NN.lit ?_|refine NN.cast ?_|refine NN.a1 ?_|refine NN.a2 ?_|refine NN.a3 ?_|refine NN.a4 ?_|refine NN.a5 ?_|refine NN.a6 ?_|refine NV.keep ?_|refine NN.keep ?_|refine NS.keep ?_|refine NIf.not_ ?_)<;>(conv=>whnf)) | (((with_reducible refine NH.mk ?s ?_);case s=>(and_intros <;> first | with_reducible rfl | omega | assumption | exact Nat.le_of_ble_eq_true rfl | (simp only [List.length_append, List.length_cons, List.length_nil]; omega) | rfl))<;>(conv=>whnf)) | (((with_reducible refine NIf.decY ?s ?_);case s=>first|with_reducible rfl|assumption|omega)<;>(conv=>whnf)) | (((with_reducible refine NIf.decN ?s ?_);case s=>first|with_reducible rfl|assumption|omega)<;>(conv=>whnf)) | (((with_reducible refine NIf.yes ?s ?_);case s=>first|rfl|assumption)<;>(conv=>whnf)) | (((with_reducible refine NIf.no ?s ?_);case s=>first|rfl|assumption)<;>(conv=>whnf)) | (((with_reducible refine NLd.of (by with_reducible assumption) ?_))<;>(conv=>whnf)) | ((refine NFlat_iff.2 ⟨⟨?s1,?s2⟩,?_⟩;(case s1=>decide +kernel);(case s2=>decide +kernel))<;>(conv=>whnf)) | ((with_reducible first|refine NIf.dec (fun _=>?_) (fun _=>?_)|refine NIf.both (fun _=>?_) (fun _=>?_))<;>(conv=>whnf)) | ((intro _;skip)<;>(conv=>whnf))))
    all_goals
      refine st_round (t + 1) (by omega) (by omega) ?_ (MemFits.eq ?_)
      · repeat (first | exact FitsSl.nil | refine FitsSl.any ?_ | refine FitsSl.cons (Fit1.int (by  omega)) ?_ | refine FitsSl.cons (Fit1.int (by first | rfl | omega)) ?_ | refine FitsSl.cons (Fit1.bool rfl) ?_ | refine FitsSl.cons (Fit1.str rfl) ?_ | refine FitsSl.cons (Fit1.same (by intro h; cases h) (by with_reducible rfl)) ?_ | refine FitsSl.cons Fit1.nil_sl ?_ | refine FitsSl.cons (Fit1.hs rfl) ?_ | refine FitsSl.cons (Fit1.hp rfl rfl) ?_ | refine FitsSl.cons (Fit1.sl rfl) ?_ | refine FitsSl.cons (Fit1.ptr rfl rfl) ?_ | refine FitsSl.cons Fit1.raw ?_)
      · simp only [autoM, List.take]
        rw [hnx]
  · have e := hend t ht (by omega)
    (repeat' (first | (with_reducible first|refine z0 ?_|refine z1 ?_|refine z2 ?_|refine z3 ?_|refine z4 ?_|refine z5 ?_|refine z6 ?_|refine z7 ?_|refine z8 ?_|refine z9 ?_|refine z10 ?_|refine z11 ?_|refine z12 ?_|refine z13 ?_|refine z14 ?_|refine z15 ?_|refine z16 ?_|refine z17 ?_|refine z18 ?_|refine z19 ?_|refine z20 ?_|refine z21 ?_|refine z22 ?_|refine z23 ?_|refine z24 ?_) | (((with_reducible first|refine z25 ?_|refine z26 ?_|refine z27 ?_|refine z28 ?_);intro K hK;(conv=>whnf))) | (with_reducible first|(refine hK _ _ ?_;clear hK K)|(refine hA ?_;clear hA hB A B)|(refine hB ?_;clear hA hB A B)|(refine hK _ ?_;clear hK K)) | ((with_reducible refine z29 ?_);intro A B hA hB;(conv=>whnf)) | (refine z30 (by decide) ?_) | ((first|refine z31 rfl ?_|refine z32 rfl ?_|refine z33 rfl ?_);intro K hK;(conv=>whnf)) | (refine z34 (by kernel_rfl) (by kernel_rfl) ?_) | (((with_reducible first|refine NV.quo ?s ?_|refine NV.rem ?s ?_|refine NV.i64 ?s ?_|refine NV.u32 ?s ?_|refine NV.u8 ?s ?_|refine NV.u64 ?s ?_);case s=>omega)<;>(conv=>whnf)) | ((with_reducible first|refine NV.divk ?_|refine NV.modk ?_|refine NN.lit ?_|refine NN.cast ?_|refine NN.a1 ?_|refine NN.a2 ?_|refine NN.a3 ?_|refine NN.a4 ?_|refine NN.a5 ?_|refine NN.a6 ?_|refine NV.keep ?_|refine NN.keep ?_|refine NS.keep ?_|refine NIf.not_ ?_)<;>(conv=>whnf)) | (((with_reducible refine NH.mk ?s ?_);case s=>(and_intros <;> first | with_reducible rfl | omega | assumption | exact Nat.le_of_ble_eq_true rfl | (simp only [List.length_append, List.length_cons, List.length_nil]; omega) | rfl))<;>(conv=>whnf)) | (((with_reducible refine NIf.decY ?s ?_);case s=>first|with_reducible rfl|assumption|omega)<;>(conv=>whnf)) | (((with_reducible refine NIf.decN ?s ?_);case s=>first|with_reducible rfl|assumption|omega)<;>(conv=>whnf)) | (((with_reducible refine NIf.yes ?s ?_);case s=>first|rfl|assumption)<;>(conv=>whnf)) | (((with_reducible refine NIf.no ?s ?_);case s=>first|rfl|assumption)<;>(conv=>whnf)) | (((with_reducible refine NLd.of (by with_reducible assumption) ?_))<;>(conv=>whnf)) | ((refine NFlat_iff.2 ⟨⟨?s1,?s2⟩,?_⟩;(case s1=>decide +kernel);(case s2=>decide +kernel))<;>(conv=>whnf)) | ((with_reducible first|refine NIf.dec (fun _=>?_) (fun _=>?_)|refine NIf.both (fun _=>?_) (fun _=>?_))<;>(conv=>whnf)) | ((intro _;skip)<;>(conv=>whnf))))
    exact ⟨rfl, by rw [e, List.length_reverse]⟩
/-! ### Those that nobody sees -/
namespace Ac
def suf (pre : List (Nat × A)) : List A := (pre.map Prod.snd).reverse
theorem suf_next (pre : List (Nat × A)) (x : Nat × A) : suf (pre ++ [x]) = x.2 :: suf pre := by simp [suf]
theorem suf_all (l : List A) : suf (bkTo l l.length) = l := by
  have := bkTo_drop l l.length (Nat.le_refl _)
  simpa [suf] using this
end Ac
/-- Between two rounds. -/
def foldM (F : Heap) (v : Value) (Au Ao : Nat) (cap : Addr) (u : Value) (s : List Ac.A) : List Blk :=
  [hpB (addF F cap [v]), ⟨⟨Au, 0, none⟩, [.bool (Ac.unseen 0 s), .bool (Ac.unseen 1 s), .bool (Ac.unseen 2 s), .bool (Ac.unseen 3 s)], .var 94⟩, ⟨⟨Ao, 0, none⟩, [.sl 3 u (Ac.fold s).length], .var 38⟩,
    ⟨addrOf u, Ac.avs (Ac.fold s).reverse, .row u 40 3 (Ac.fold s).length⟩]
def foldMM (F : Heap) (v : Value) (sl : List AV) (pre : List (Nat × Ac.A)) (m : List Blk) : Prop :=
  ∃ Au Ao cap g j u, sl[3]? = some (.ptr 1 ⟨Au, 0, none⟩ 0) ∧ sl[4]? = some (.ptr 2 ⟨Ao, 0, none⟩ 0) ∧ sl[9]? = some (.fn g [] [.ptr j cap 0]) ∧ m = foldM F v Au Ao cap u (Ac.suf pre)
theorem ptr_inj {i j a b : Nat} (h : some (AV.ptr i ⟨a, 0, none⟩ 0) = some (AV.ptr j ⟨b, 0, none⟩ 0)) : a = b := by
  injection h with h
  injection h with _ h _
  injection h
theorem fn_inj {f g : FuncId} {i j : Nat} {a b : Addr} (h : some (AV.fn f [] [.ptr i a 0]) = some (AV.fn g [] [.ptr j b 0])) : a = b := by
  injection h with h
  injection h with _ _ h
  injection h with h
  injection h
theorem fits_swap (a b c d : Blk) : MemFits [a, b, c, d] [a, d, b, c] := MemFits.pick [0, 3, 1, 2] (by decide) rfl
theorem foldM_plain {F : Heap} {v : Value} {Au Ao Au' Ao' : Nat} {cap : Addr} {u u' : Value} {s s' : List Ac.A} : ∀ k ∈ foldM F v Au Ao cap u s, plainB (foldM F v Au' Ao' cap u' s') k := by
  intro k hk
  simp only [foldM, List.mem_cons, List.mem_singleton, List.not_mem_nil, or_false] at hk
  rcases hk with rfl | rfl | rfl | rfl
  · exact List.mem_cons_self ..
  · trivial
  · trivial
  · trivial
theorem foldM_foot {F : Heap} {v : Value} {Au Ao : Nat} {cap : Addr} {u0 : Value} {w : World} {sl : List AV} (h3 : sl[3]? = some (.ptr 1 ⟨Au, 0, none⟩ 0)) (h4 : sl[4]? = some (.ptr 2 ⟨Ao, 0, none⟩ 0)) {g : FuncId} {j : Nat} (h9 : sl[9]? = some (.fn g [] [.ptr j cap 0]))
    (hm : MemOk (foldM F v Au Ao cap u0 []) w) : ∃ Foot, FootOf (foldM F v Au Ao cap u0 []) (foldMM F v sl) Foot w := by
  have lF : ∀ b, (hpB (addF F cap [v])).foot b → b < w.heap.size := fun b hb => (hm.holds _ (by simp [foldM])).lt hb
  have lU : Au < w.heap.size := (hm.holds _ (List.mem_cons_of_mem _ (List.mem_cons_self ..))).lt rfl
  have lO : Ao < w.heap.size := (hm.holds _ (List.mem_cons_of_mem _ (List.mem_cons_of_mem _ (List.mem_cons_self ..)))).lt rfl
  refine ⟨fun W b => ∃ (x : Value) (t : TypeId), W.heap[Ao]? = some (.cells #[x] t (0, 0)) ∧ x.ownBlock = some b, ?_, ?_⟩
  · rintro pre m1 W ⟨Au', Ao', cap', g', j', u, e3, e4, e9, rfl⟩ hmo b hb
    rw [h3] at e3
    rw [h4] at e4
    rw [h9] at e9
    injection e3 with e3
    injection e4 with e4
    injection e9 with e9
    injection e3 with _ e3 _
    injection e3 with e3
    injection e4 with _ e4 _
    injection e4 with e4
    injection e9 with _ _ e9
    injection e9 with e9
    injection e9 with _ e9
    subst e3 e4 e9
    have hO := (hmo.holds ⟨⟨Ao, 0, none⟩, [.sl 3 u (Ac.fold (Ac.suf pre)).length], .var 38⟩ (by simp [foldM])).2.2
    have hR := (hmo.holds ⟨addrOf u, Ac.avs (Ac.fold (Ac.suf pre)).reverse, .row u 40 3 (Ac.fold (Ac.suf pre)).length⟩ (by simp [foldM])).1.2
    have hslu : slOf u = u := by rcases hR with ⟨rfl, _⟩ | ⟨g, cp, cur, rfl, _⟩ <;> rfl
    have hO' : W.heap[Ao]? = some (.cells #[u] 38 (0, 0)) := by
      have : (denL [AV.sl 3 u (Ac.fold (Ac.suf pre)).length]).toArray = #[u] := by simp [denL, AV.den, hslu]
      rw [this] at hO
      exact hO
    constructor
    · rintro ⟨k, hk, hkb⟩
      simp only [foldM, List.mem_cons, List.mem_singleton, List.not_mem_nil, or_false] at hk
      rcases hk with rfl | rfl | rfl | rfl
      · exact absurd (lF b hkb) (by omega)
      · simp only [Blk.foot, Blk.bn, Option.some.injEq] at hkb
        omega
      · simp only [Blk.foot, Blk.bn, Option.some.injEq] at hkb
        omega
      · exact ⟨u, _, hO', hkb⟩
    · rintro ⟨x, t, hx, hxb⟩
      rw [hO'] at hx
      injection hx with hx
      injection hx with hx _ _
      have hx : u = x := by simpa using hx
      subst hx
      exact ⟨⟨addrOf u, Ac.avs (Ac.fold (Ac.suf pre)).reverse, .row u 40 3 (Ac.fold (Ac.suf pre)).length⟩, (List.mem_cons_of_mem _ (List.mem_cons_of_mem _ (List.mem_cons_of_mem _ (List.mem_cons_self ..)))), hxb⟩
  · rintro W W' row b hsz hg hr ⟨x, t, hx, hxb⟩
    refine ⟨x, t, ?_, hxb⟩
    rw [← hx]
    exact (hg.block Ao (by omega) fun e => by have := hr Ao e.symm; omega).symm
set_option maxHeartbeats 4000000 in
theorem fold9_raw (F : Heap) (v : Value) (l : List Ac.A) (hv : RowF F 3 (fun x vs => vs = Ac.actV x) v l) (hn : l.length ≤ 1000) :
    NCall Tryd.prog 38 [.hs v l.length] [hpB F] fun r m => ∃ u l', l' = Ac.fold l ∧ r.den = slOf u ∧ MemFits m [hpB F, ⟨addrOf u, Ac.avs l', .row u 40 3 l'.length⟩] := by
  have hok := hv.ok
  refine ncall_range Tryd.func38 rfl (by decide) rfl rfl Ac.encB (fun x => x.2.av) 6 40 (Ac.bkTo l l.length) (foldMM F v) (fun _ => rfl) ?_
  have hb := backward_c F v l.length hok
  (repeat' (first | (with_reducible first|refine z0 ?_|refine z1 ?_|refine z2 ?_|refine z3 ?_|refine z4 ?_|refine z5 ?_|refine z6 ?_|refine z7 ?_|refine z8 ?_|refine z9 ?_|refine z10 ?_|refine z11 ?_|refine z12 ?_|refine z13 ?_|refine z14 ?_|refine z15 ?_|refine z16 ?_|refine z17 ?_|refine z18 ?_|refine z19 ?_|refine z20 ?_|refine z21 ?_|refine z22 ?_|refine z23 ?_|refine z24 ?_) | (((with_reducible first|refine z25 ?_|refine z26 ?_|refine z27 ?_|refine z28 ?_);intro K hK;(conv=>whnf))) | (with_reducible first|(refine hK _ _ ?_;clear hK K)|(refine hA ?_;clear hA hB A B)|(refine hB ?_;clear hA hB A B)|(refine hK _ ?_;clear hK K)) | ((with_reducible refine z29 ?_);intro A B hA hB;(conv=>whnf)) | (refine z30 (by decide) ?_) | ((first|refine z31 rfl ?_|refine z32 rfl ?_|refine z33 rfl ?_);intro K hK;(conv=>whnf)) | (refine z34 (by kernel_rfl) (by kernel_rfl) ?_) | ((with_reducible refine NCall.isF 85 ?_); (refine NCall.subw [0] _ _ (hb) rfl (by decide) rfl ?_; rintro _ _ ⟨b, rfl, rfl⟩; refine ⟨Nat.le_of_ble_eq_true rfl, _, rfl, ?_⟩; (conv=>whnf))) | (((with_reducible first|refine NV.quo ?s ?_|refine NV.rem ?s ?_|refine NV.i64 ?s ?_|refine NV.u32 ?s ?_|refine NV.u8 ?s ?_|refine NV.u64 ?s ?_);case s=>omega)<;>(conv=>whnf)) | ((with_reducible first|refine NV.divk ?_|refine NV.modk ?_|refine NN.lit ?_|refine NN.cast ?_|refine NN.a1 ?_|refine NN.a2 ?_|refine NN.a3 ?_|refine NN.a4 ?_|refine NN.a5 ?_|refine NN.a6 ?_|refine NV.keep ?_|refine NN.keep ?_|refine NS.keep ?_|refine NIf.not_ ?_)<;>(conv=>whnf)) | (((with_reducible refine NH.mk ?s ?_);case s=>(and_intros <;> first | with_reducible rfl | omega | assumption | exact Nat.le_of_ble_eq_true rfl | (simp only [List.length_append, List.length_cons, List.length_nil]; omega) | rfl))<;>(conv=>whnf)) | (((with_reducible refine NIf.decY ?s ?_);case s=>first|with_reducible rfl|assumption|omega)<;>(conv=>whnf)) | (((with_reducible refine NIf.decN ?s ?_);case s=>first|with_reducible rfl|assumption|omega)<;>(conv=>whnf)) | (((with_reducible refine NIf.yes ?s ?_);case s=>first|rfl|assumption)<;>(conv=>whnf)) | (((with_reducible refine NIf.no ?s ?_);case s=>first|rfl|assumption)<;>(conv=>whnf)) | (((with_reducible refine NLd.of (by with_reducible assumption) ?_))<;>(conv=>whnf)) | ((refine NFlat_iff.2 ⟨⟨?s1,?s2⟩,?_⟩;(case s1=>decide +kernel);(case s2=>decide +kernel))<;>(conv=>whnf)) | ((with_reducible first|refine NIf.dec (fun _=>?_) (fun _=>?_)|refine NIf.both (fun _=>?_) (fun _=>?_))<;>(conv=>whnf)) | ((intro _;skip)<;>(conv=>whnf))))
  rename_i Au Ao
  have hcap : (addF F ⟨b, 0, none⟩ [v]).c ⟨b, 0, none⟩ v := .inr ⟨0, by simp [Addr.add], rfl⟩
  refine ⟨rfl, 110, [.hp ⟨b, 0, none⟩ 0], foldM F v Au Ao ⟨b, 0, none⟩ (.slice none 0 0) [], ?_, ?_, Go.Sx.enters_of Tryd.func110 rfl (by decide),
    backward_gives _ v l (hv.mono addF.old fun _ _ h => h) hn _ (List.mem_cons_self ..) ⟨b, 0, none⟩ hcap, ⟨Au, Ao, ⟨b, 0, none⟩, _, _, .slice none 0 0, rfl, rfl, rfl, rfl⟩, foldM_plain, fun w hm => foldM_foot rfl rfl rfl hm, ?_, ?_, ?_⟩
  · have hden : denL [AV.hs v l.length] = [v] := by simp [denL, AV.den, hok.slOf]
    refine (fits_swap _ _ _ _).trans (MemFits.freezeVar.trans ((MemFits.nilRow _ 40 3).trans (MemFits.congr ?_)))
    rw [hden]
    rfl
  · show (AV.fn _ [] [AV.ptr 1 _ 0]).den = _
    rfl
  · rintro pre x m2 ⟨Au', Ao', cap', g', j', u, e3, e4, e9, rfl⟩
    clear e3 e4 e9
    unfold foldM
    (repeat' (first | (with_reducible first|refine z0 ?_|refine z1 ?_|refine z2 ?_|refine z3 ?_|refine z4 ?_|refine z5 ?_|refine z6 ?_|refine z7 ?_|refine z8 ?_|refine z9 ?_|refine z10 ?_|refine z11 ?_|refine z12 ?_|refine z13 ?_|refine z14 ?_|refine z15 ?_|refine z16 ?_|refine z17 ?_|refine z18 ?_|refine z19 ?_|refine z20 ?_|refine z21 ?_|refine z22 ?_|refine z23 ?_|refine z24 ?_) | (((with_reducible first|refine z25 ?_|refine z26 ?_|refine z27 ?_|refine z28 ?_);intro K hK;(conv=>whnf))) | (with_reducible first|(refine hK _ _ ?_;clear hK K)|(refine hA ?_;clear hA hB A B)|(refine hB ?_;clear hA hB A B)|(refine hK _ ?_;clear hK K)) | ((with_reducible refine z29 ?_);intro A B hA hB;(conv=>whnf)) | (refine z30 (by decide) ?_) | ((first|refine z31 rfl ?_|refine z32 rfl ?_|refine z33 rfl ?_);intro K hK;(conv=>whnf)) | (refine z34 (by kernel_rfl) (by kernel_rfl) ?_) | (((with_reducible first|refine NV.quo ?s ?_|refine NV.rem ?s ?_|refine NV.i64 ?s ?_|refine NV.u32 ?s ?_|refine NV.u8 ?s ?_|refine NV.u64 ?s ?_);case s=>omega)<;>(conv=>whnf)) | ((with_reducible first|refine NV.divk ?_|refine NV.modk ?_|refine NN.lit ?_|refine NN.cast ?_|refine NN.a1 ?_|refine NN.a2 ?_|refine NN.a3 ?_|refine NN.a4 ?_|refine NN.a5 ?_|refine NN.a6 ?_|refine NV.keep ?_|refine NN.keep ?_|refine NS.keep ?_|refine NIf.not_ ?_)<;>(conv=>whnf)) | (((with_reducible refine NH.mk ?s ?_);case s=>(and_intros <;> first | with_reducible rfl | omega | assumption | exact Nat.le_of_ble_eq_true rfl | (simp only [List.length_append, List.length_cons, List.length_nil]; omega) | rfl))<;>(conv=>whnf)) | (((with_reducible refine NIf.decY ?s ?_);case s=>first|with_reducible rfl|assumption|omega)<;>(conv=>whnf)) | (((with_reducible refine NIf.decN ?s ?_);case s=>first|with_reducible rfl|assumption|omega)<;>(conv=>whnf)) | (((with_reducible refine NIf.yes ?s ?_);case s=>first|rfl|assumption)<;>(conv=>whnf)) | (((with_reducible refine NIf.no ?s ?_);case s=>first|rfl|assumption)<;>(conv=>whnf)) | (((with_reducible refine NLd.of (by with_reducible assumption) ?_))<;>(conv=>whnf)) | ((refine NFlat_iff.2 ⟨⟨?s1,?s2⟩,?_⟩;(case s1=>decide +kernel);(case s2=>decide +kernel))<;>(conv=>whnf)) | ((with_reducible first|refine NIf.dec (fun _=>?_) (fun _=>?_)|refine NIf.both (fun _=>?_) (fun _=>?_))<;>(conv=>whnf)) | ((intro _;skip)<;>(conv=>whnf))))
    exact ⟨rfl, _, rfl, rfl⟩
  · rintro pre x b2 m2 hlt ⟨Au', Ao', cap', g', j', u, e3, e4, e9, rfl⟩
    obtain rfl := ptr_inj (show some (AV.ptr 1 ⟨Au, 0, none⟩ 0) = some (AV.ptr 1 ⟨Au', 0, none⟩ 0) from e3)
    obtain rfl := ptr_inj (show some (AV.ptr 2 ⟨Ao, 0, none⟩ 0) = some (AV.ptr 2 ⟨Ao', 0, none⟩ 0) from e4)
    obtain rfl := fn_inj (show some (AV.fn _ [] [.ptr 1 ⟨b, 0, none⟩ 0]) = some (AV.fn g' [] [.ptr j' cap' 0]) from e9)
    have hmm : ∀ u', foldMM F v _ (pre ++ [x]) (foldM F v Au Ao ⟨b, 0, none⟩ u' (x.2 :: Ac.suf pre)) := fun u' => ⟨Au, Ao, _, g', j', u', e3, e4, e9, by rw [Ac.suf_next]⟩
    clear e3 e4 e9
    rw [Ac.bkTo_len] at hlt
    have hsl : (Ac.suf pre).length = pre.length := by simp [Ac.suf]
    have hfl := Ac.fold_len (Ac.suf pre)
    have hal := Ac.avs_len (Ac.fold (Ac.suf pre)).reverse
    rw [List.length_reverse] at hal
    have hnx := Ac.avs_next (Ac.fold (Ac.suf pre)).reverse x.2
    have hfit : ∀ u' m3, MemFits m3 (foldM F v Au Ao ⟨b, 0, none⟩ u' (x.2 :: Ac.suf pre)) → ∃ m4, MemFits m3 m4 ∧ foldMM F v _ (pre ++ [x]) m4 ∧ ∀ k ∈ m4, plainB (foldM F v Au Ao ⟨b, 0, none⟩ (.slice none 0 0) []) k :=
      fun u' m3 h => ⟨_, h, hmm u', foldM_plain⟩
    clear hmm
    generalize Ac.suf pre = s at *
    obtain ⟨xi, xk, xf, xv⟩ := x
    have huc := fun f => Ac.unseen_cons f ⟨xk, xf, xv⟩ s
    have hfc : Ac.fold (⟨xk, xf, xv⟩ :: s) = if Ac.gone ⟨xk, xf, xv⟩ s then Ac.fold s else ⟨xk, xf, xv⟩ :: Ac.fold s := by rw [Ac.fold]
    have hgi : Ac.gone ⟨xk, xf, xv⟩ s ↔ xk = 1 ∧ 0 ≤ xf ∧ xf < 4 ∧ Ac.unseen xf s = true := Iff.rfl
    dsimp only at *
    unfold foldM at hfit ⊢
    simp only [huc] at hfit
    have keep : ¬ Ac.gone ⟨xk, xf, xv⟩ s → (Ac.fold (⟨xk, xf, xv⟩ :: s)).length = (Ac.fold s).length + 1 ∧ Ac.avs (Ac.fold (⟨xk, xf, xv⟩ :: s)).reverse = Ac.avs (Ac.fold s).reverse ++ [.int .i64 xk, .int .i64 xf, .int .i64 xv] := fun h => by
      rw [hfc, if_neg h]
      exact ⟨rfl, by rw [List.reverse_cons, hnx]⟩
    by_cases h2 : xk = 2
    · obtain ⟨k1, k2⟩ := keep (fun h => by have := h.1; dsimp only at this; omega)
      simp only [if_pos h2] at hfit
      rw [k1, k2] at hfit
      generalize Ac.avs (Ac.fold s).reverse = ps at *
      subst h2
      (repeat' (first | (with_reducible first|refine z0 ?_|refine z1 ?_|refine z2 ?_|refine z3 ?_|refine z4 ?_|refine z5 ?_|refine z6 ?_|refine z7 ?_|refine z8 ?_|refine z9 ?_|refine z10 ?_|refine z11 ?_|refine z12 ?_|refine z13 ?_|refine z14 ?_|refine z15 ?_|refine z16 ?_|refine z17 ?_|refine z18 ?_|refine z19 ?_|refine z20 ?_|refine z21 ?_|refine z22 ?_|refine z23 ?_|refine z24 ?_) | (((with_reducible first|refine z25 ?_|refine z26 ?_|refine z27 ?_|refine z28 ?_);intro K hK;(conv=>whnf))) | (with_reducible first|(refine hK _ _ ?_;clear hK K)|(refine hA ?_;clear hA hB A B)|(refine hB ?_;clear hA hB A B)|(refine hK _ ?_;clear hK K)) | ((with_reducible refine z29 ?_);intro A B hA hB;(conv=>whnf)) | (refine z30 (by decide) ?_) | ((first|refine z31 rfl ?_|refine z32 rfl ?_|refine z33 rfl ?_);intro K hK;(conv=>whnf)) | (refine z34 (by kernel_rfl) (by kernel_rfl) ?_) | (((with_reducible first|refine NV.quo ?s ?_|refine NV.rem ?s ?_|refine NV.i64 ?s ?_|refine NV.u32 ?s ?_|refine NV.u8 ?s ?_|refine NV.u64 ?s ?_);case s=>omega)<;>(conv=>whnf)) | ((with_reducible first|refine NV.divk ?_|refine NV.modk ?_|refine NN.lit ?_|refine NN.cast ?_|refine NN.a1 ?_|refine NN.a2 ?_|refine NN.a3 ?_|refine NN.a4 ?_|refine NN.a5 ?_|refine NN.a6 ?_|refine NV.keep ?_|refine NN.keep ?_|refine NS.keep ?_|refine NIf.not_ ?_)<;>(conv=>whnf)) | (((with_reducible refine NH.mk ?s ?_);case s=>(and_intros <;> first | with_reducible rfl | omega | assumption | exact Nat.le_of_ble_eq_true rfl | (simp only [List.length_append, List.length_cons, List.length_nil]; omega) | rfl))<;>(conv=>whnf)) | (((with_reducible refine NIf.decY ?s ?_);case s=>first|with_reducible rfl|assumption|omega)<;>(conv=>whnf)) | (((with_reducible refine NIf.decN ?s ?_);case s=>first|with_reducible rfl|assumption|omega)<;>(conv=>whnf)) | (((with_reducible refine NIf.yes ?s ?_);case s=>first|rfl|assumption)<;>(conv=>whnf)) | (((with_reducible refine NIf.no ?s ?_);case s=>first|rfl|assumption)<;>(conv=>whnf)) | (((with_reducible refine NLd.of (by with_reducible assumption) ?_))<;>(conv=>whnf)) | ((refine NFlat_iff.2 ⟨⟨?s1,?s2⟩,?_⟩;(case s1=>decide +kernel);(case s2=>decide +kernel))<;>(conv=>whnf)) | ((with_reducible first|refine NIf.dec (fun _=>?_) (fun _=>?_)|refine NIf.both (fun _=>?_) (fun _=>?_))<;>(conv=>whnf)) | ((intro _;skip)<;>(conv=>whnf))))
      all_goals
        rename_i v2
        refine ⟨rfl, hfit v2 _ (MemFits.pre 4 ?_)⟩
        rfl
    simp only [if_neg h2] at hfit
    by_cases h3 : xk = 3
    · obtain ⟨k1, k2⟩ := keep (fun h => by have := h.1; dsimp only at this; omega)
      have hc : ∀ f : Int, xk = 3 ∨ xk = 1 ∧ xf = f := fun _ => .inl h3
      simp only [if_pos (hc _)] at hfit
      rw [k1, k2] at hfit
      generalize Ac.avs (Ac.fold s).reverse = ps at *
      clear hc
      subst h3
      (repeat' (first | (with_reducible first|refine z0 ?_|refine z1 ?_|refine z2 ?_|refine z3 ?_|refine z4 ?_|refine z5 ?_|refine z6 ?_|refine z7 ?_|refine z8 ?_|refine z9 ?_|refine z10 ?_|refine z11 ?_|refine z12 ?_|refine z13 ?_|refine z14 ?_|refine z15 ?_|refine z16 ?_|refine z17 ?_|refine z18 ?_|refine z19 ?_|refine z20 ?_|refine z21 ?_|refine z22 ?_|refine z23 ?_|refine z24 ?_) | (((with_reducible first|refine z25 ?_|refine z26 ?_|refine z27 ?_|refine z28 ?_);intro K hK;(conv=>whnf))) | (with_reducible first|(refine hK _ _ ?_;clear hK K)|(refine hA ?_;clear hA hB A B)|(refine hB ?_;clear hA hB A B)|(refine hK _ ?_;clear hK K)) | ((with_reducible refine z29 ?_);intro A B hA hB;(conv=>whnf)) | (refine z30 (by decide) ?_) | ((first|refine z31 rfl ?_|refine z32 rfl ?_|refine z33 rfl ?_);intro K hK;(conv=>whnf)) | (refine z34 (by kernel_rfl) (by kernel_rfl) ?_) | (((with_reducible first|refine NV.quo ?s ?_|refine NV.rem ?s ?_|refine NV.i64 ?s ?_|refine NV.u32 ?s ?_|refine NV.u8 ?s ?_|refine NV.u64 ?s ?_);case s=>omega)<;>(conv=>whnf)) | ((with_reducible first|refine NV.divk ?_|refine NV.modk ?_|refine NN.lit ?_|refine NN.cast ?_|refine NN.a1 ?_|refine NN.a2 ?_|refine NN.a3 ?_|refine NN.a4 ?_|refine NN.a5 ?_|refine NN.a6 ?_|refine NV.keep ?_|refine NN.keep ?_|refine NS.keep ?_|refine NIf.not_ ?_)<;>(conv=>whnf)) | (((with_reducible refine NH.mk ?s ?_);case s=>(and_intros <;> first | with_reducible rfl | omega | assumption | exact Nat.le_of_ble_eq_true rfl | (simp only [List.length_append, List.length_cons, List.length_nil]; omega) | rfl))<;>(conv=>whnf)) | (((with_reducible refine NIf.decY ?s ?_);case s=>first|with_reducible rfl|assumption|omega)<;>(conv=>whnf)) | (((with_reducible refine NIf.decN ?s ?_);case s=>first|with_reducible rfl|assumption|omega)<;>(conv=>whnf)) | (((with_reducible refine NIf.yes ?s ?_);case s=>first|rfl|assumption)<;>(conv=>whnf)) | (((with_reducible refine NIf.no ?s ?_);case s=>first|rfl|assumption)<;>(conv=>whnf)) | (((with_reducible refine NLd.of (by with_reducible assumption) ?_))<;>(conv=>whnf)) | ((refine NFlat_iff.2 ⟨⟨?s1,?s2⟩,?_⟩;(case s1=>decide +kernel);(case s2=>decide +kernel))<;>(conv=>whnf)) | ((with_reducible first|refine NIf.dec (fun _=>?_) (fun _=>?_)|refine NIf.both (fun _=>?_) (fun _=>?_))<;>(conv=>whnf)) | ((intro _;skip)<;>(conv=>whnf))))
      all_goals
        rename_i v2
        refine ⟨rfl, hfit v2 _ (MemFits.pre 4 ?_)⟩
        rfl
    by_cases h1 : xk = 1 ∧ 0 ≤ xf ∧ xf < 4
    rotate_left
    · obtain ⟨k1, k2⟩ := keep (fun h => h1 ⟨h.1, h.2.1, h.2.2.1⟩)
      have c0 : ¬ (xk = 3 ∨ xk = 1 ∧ xf = 0) := by omega
      have c1 : ¬ (xk = 3 ∨ xk = 1 ∧ xf = 1) := by omega
      have c2 : ¬ (xk = 3 ∨ xk = 1 ∧ xf = 2) := by omega
      have c3 : ¬ (xk = 3 ∨ xk = 1 ∧ xf = 3) := by omega
      simp only [if_neg c0, if_neg c1, if_neg c2, if_neg c3] at hfit
      rw [k1, k2] at hfit
      generalize Ac.avs (Ac.fold s).reverse = ps at *
      by_cases h1' : xk = 1
      · subst h1'
        by_cases h5 : 0 ≤ xf
        · have h6 : ¬ xf < 4 := by omega
          (repeat' (first | (with_reducible first|refine z0 ?_|refine z1 ?_|refine z2 ?_|refine z3 ?_|refine z4 ?_|refine z5 ?_|refine z6 ?_|refine z7 ?_|refine z8 ?_|refine z9 ?_|refine z10 ?_|refine z11 ?_|refine z12 ?_|refine z13 ?_|refine z14 ?_|refine z15 ?_|refine z16 ?_|refine z17 ?_|refine z18 ?_|refine z19 ?_|refine z20 ?_|refine z21 ?_|refine z22 ?_|refine z23 ?_|refine z24 ?_) | (((with_reducible first|refine z25 ?_|refine z26 ?_|refine z27 ?_|refine z28 ?_);intro K hK;(conv=>whnf))) | (with_reducible first|(refine hK _ _ ?_;clear hK K)|(refine hA ?_;clear hA hB A B)|(refine hB ?_;clear hA hB A B)|(refine hK _ ?_;clear hK K)) | ((with_reducible refine z29 ?_);intro A B hA hB;(conv=>whnf)) | (refine z30 (by decide) ?_) | ((first|refine z31 rfl ?_|refine z32 rfl ?_|refine z33 rfl ?_);intro K hK;(conv=>whnf)) | (refine z34 (by kernel_rfl) (by kernel_rfl) ?_) | (((with_reducible first|refine NV.quo ?s ?_|refine NV.rem ?s ?_|refine NV.i64 ?s ?_|refine NV.u32 ?s ?_|refine NV.u8 ?s ?_|refine NV.u64 ?s ?_);case s=>omega)<;>(conv=>whnf)) | ((with_reducible first|refine NV.divk ?_|refine NV.modk ?_|refine NN.lit ?_|refine NN.cast ?_|refine NN.a1 ?_|refine NN.a2 ?_|refine NN.a3 ?_|refine NN.a4 ?_|refine NN.a5 ?_|refine NN.a6 ?_|refine NV.keep ?_|refine NN.keep ?_|refine NS.keep ?_|refine NIf.not_ ?_)<;>(conv=>whnf)) | (((with_reducible refine NH.mk ?s ?_);case s=>(and_intros <;> first | with_reducible rfl | omega | assumption | exact Nat.le_of_ble_eq_true rfl | (simp only [List.length_append, List.length_cons, List.length_nil]; omega) | rfl))<;>(conv=>whnf)) | (((with_reducible refine NIf.decY ?s ?_);case s=>first|with_reducible rfl|assumption|omega)<;>(conv=>whnf)) | (((with_reducible refine NIf.decN ?s ?_);case s=>first|with_reducible rfl|assumption|omega)<;>(conv=>whnf)) | (((with_reducible refine NIf.yes ?s ?_);case s=>first|rfl|assumption)<;>(conv=>whnf)) | (((with_reducible refine NIf.no ?s ?_);case s=>first|rfl|assumption)<;>(conv=>whnf)) | (((with_reducible refine NLd.of (by with_reducible assumption) ?_))<;>(conv=>whnf)) | ((refine NFlat_iff.2 ⟨⟨?s1,?s2⟩,?_⟩;(case s1=>decide +kernel);(case s2=>decide +kernel))<;>(conv=>whnf)) | ((with_reducible first|refine NIf.dec (fun _=>?_) (fun _=>?_)|refine NIf.both (fun _=>?_) (fun _=>?_))<;>(conv=>whnf)) | ((intro _;skip)<;>(conv=>whnf))))
          all_goals
            rename_i v2
            refine ⟨rfl, hfit v2 _ (MemFits.pre 4 ?_)⟩
            rfl
        · (repeat' (first | (with_reducible first|refine z0 ?_|refine z1 ?_|refine z2 ?_|refine z3 ?_|refine z4 ?_|refine z5 ?_|refine z6 ?_|refine z7 ?_|refine z8 ?_|refine z9 ?_|refine z10 ?_|refine z11 ?_|refine z12 ?_|refine z13 ?_|refine z14 ?_|refine z15 ?_|refine z16 ?_|refine z17 ?_|refine z18 ?_|refine z19 ?_|refine z20 ?_|refine z21 ?_|refine z22 ?_|refine z23 ?_|refine z24 ?_) | (((with_reducible first|refine z25 ?_|refine z26 ?_|refine z27 ?_|refine z28 ?_);intro K hK;(conv=>whnf))) | (with_reducible first|(refine hK _ _ ?_;clear hK K)|(refine hA ?_;clear hA hB A B)|(refine hB ?_;clear hA hB A B)|(refine hK _ ?_;clear hK K)) | ((with_reducible refine z29 ?_);intro A B hA hB;(conv=>whnf)) | (refine z30 (by decide) ?_) | ((first|refine z31 rfl ?_|refine z32 rfl ?_|refine z33 rfl ?_);intro K hK;(conv=>whnf)) | (refine z34 (by kernel_rfl) (by kernel_rfl) ?_) | (((with_reducible first|refine NV.quo ?s ?_|refine NV.rem ?s ?_|refine NV.i64 ?s ?_|refine NV.u32 ?s ?_|refine NV.u8 ?s ?_|refine NV.u64 ?s ?_);case s=>omega)<;>(conv=>whnf)) | ((with_reducible first|refine NV.divk ?_|refine NV.modk ?_|refine NN.lit ?_|refine NN.cast ?_|refine NN.a1 ?_|refine NN.a2 ?_|refine NN.a3 ?_|refine NN.a4 ?_|refine NN.a5 ?_|refine NN.a6 ?_|refine NV.keep ?_|refine NN.keep ?_|refine NS.keep ?_|refine NIf.not_ ?_)<;>(conv=>whnf)) | (((with_reducible refine NH.mk ?s ?_);case s=>(and_intros <;> first | with_reducible rfl | omega | assumption | exact Nat.le_of_ble_eq_true rfl | (simp only [List.length_append, List.length_cons, List.length_nil]; omega) | rfl))<;>(conv=>whnf)) | (((with_reducible refine NIf.decY ?s ?_);case s=>first|with_reducible rfl|assumption|omega)<;>(conv=>whnf)) | (((with_reducible refine NIf.decN ?s ?_);case s=>first|with_reducible rfl|assumption|omega)<;>(conv=>whnf)) | (((with_reducible refine NIf.yes ?s ?_);case s=>first|rfl|assumption)<;>(conv=>whnf)) | (((with_reducible refine NIf.no ?s ?_);case s=>first|rfl|assumption)<;>(conv=>whnf)) | (((with_reducible refine NLd.of (by with_reducible assumption) ?_))<;>(conv=>whnf)) | ((refine NFlat_iff.2 ⟨⟨?s1,?s2⟩,?_⟩;(case s1=>decide +kernel);(case s2=>decide +kernel))<;>(conv=>whnf)) | ((with_reducible first|refine NIf.dec (fun _=>?_) (fun _=>?_)|refine NIf.both (fun _=>?_) (fun _=>?_))<;>(conv=>whnf)) | ((intro _;skip)<;>(conv=>whnf))))
          all_goals
            rename_i v2
            refine ⟨rfl, hfit v2 _ (MemFits.pre 4 ?_)⟩
            rfl
      · (repeat' (first | (with_reducible first|refine z0 ?_|refine z1 ?_|refine z2 ?_|refine z3 ?_|refine z4 ?_|refine z5 ?_|refine z6 ?_|refine z7 ?_|refine z8 ?_|refine z9 ?_|refine z10 ?_|refine z11 ?_|refine z12 ?_|refine z13 ?_|refine z14 ?_|refine z15 ?_|refine z16 ?_|refine z17 ?_|refine z18 ?_|refine z19 ?_|refine z20 ?_|refine z21 ?_|refine z22 ?_|refine z23 ?_|refine z24 ?_) | (((with_reducible first|refine z25 ?_|refine z26 ?_|refine z27 ?_|refine z28 ?_);intro K hK;(conv=>whnf))) | (with_reducible first|(refine hK _ _ ?_;clear hK K)|(refine hA ?_;clear hA hB A B)|(refine hB ?_;clear hA hB A B)|(refine hK _ ?_;clear hK K)) | ((with_reducible refine z29 ?_);intro A B hA hB;(conv=>whnf)) | (refine z30 (by decide) ?_) | ((first|refine z31 rfl ?_|refine z32 rfl ?_|refine z33 rfl ?_);intro K hK;(conv=>whnf)) | (refine z34 (by kernel_rfl) (by kernel_rfl) ?_) | (((with_reducible first|refine NV.quo ?s ?_|refine NV.rem ?s ?_|refine NV.i64 ?s ?_|refine NV.u32 ?s ?_|refine NV.u8 ?s ?_|refine NV.u64 ?s ?_);case s=>omega)<;>(conv=>whnf)) | ((with_reducible first|refine NV.divk ?_|refine NV.modk ?_|refine NN.lit ?_|refine NN.cast ?_|refine NN.a1 ?_|refine NN.a2 ?_|refine NN.a3 ?_|refine NN.a4 ?_|refine NN.a5 ?_|refine NN.a6 ?_|refine NV.keep ?_|refine NN.keep ?_|refine NS.keep ?_|refine NIf.not_ ?_)<;>(conv=>whnf)) | (((with_reducible refine NH.mk ?s ?_);case s=>(and_intros <;> first | with_reducible rfl | omega | assumption | exact Nat.le_of_ble_eq_true rfl | (simp only [List.length_append, List.length_cons, List.length_nil]; omega) | rfl))<;>(conv=>whnf)) | (((with_reducible refine NIf.decY ?s ?_);case s=>first|with_reducible rfl|assumption|omega)<;>(conv=>whnf)) | (((with_reducible refine NIf.decN ?s ?_);case s=>first|with_reducible rfl|assumption|omega)<;>(conv=>whnf)) | (((with_reducible refine NIf.yes ?s ?_);case s=>first|rfl|assumption)<;>(conv=>whnf)) | (((with_reducible refine NIf.no ?s ?_);case s=>first|rfl|assumption)<;>(conv=>whnf)) | (((with_reducible refine NLd.of (by with_reducible assumption) ?_))<;>(conv=>whnf)) | ((refine NFlat_iff.2 ⟨⟨?s1,?s2⟩,?_⟩;(case s1=>decide +kernel);(case s2=>decide +kernel))<;>(conv=>whnf)) | ((with_reducible first|refine NIf.dec (fun _=>?_) (fun _=>?_)|refine NIf.both (fun _=>?_) (fun _=>?_))<;>(conv=>whnf)) | ((intro _;skip)<;>(conv=>whnf))))
        all_goals
          rename_i v2
          refine ⟨rfl, hfit v2 _ (MemFits.pre 4 ?_)⟩
          rfl
    obtain ⟨h1, hf⟩ := h1
    subst h1
    have d0 : ¬ ((1 : Int) = 3) := by decide
    by_cases hg : Ac.unseen xf s = true
    · have hgo : Ac.gone ⟨1, xf, xv⟩ s := hgi.2 ⟨rfl, hf.1, hf.2, hg⟩
      rw [hfc, if_pos hgo] at hfit
      generalize Ac.avs (Ac.fold s).reverse = ps at *
      rcases field4 hf with rfl | rfl | rfl | rfl
      all_goals
        simp only [d0, false_or, true_and, if_true, hg, show ¬ ((0 : Int) = 1) by decide, show ¬ ((0 : Int) = 2) by decide, show ¬ ((0 : Int) = 3) by decide, show ¬ ((1 : Int) = 0) by decide, show ¬ ((1 : Int) = 2) by decide, show ¬ ((2 : Int) = 0) by decide, show ¬ ((2 : Int) = 1) by decide, show ¬ ((2 : Int) = 3) by decide, show ¬ ((3 : Int) = 0) by decide, show ¬ ((3 : Int) = 1) by decide, show ¬ ((3 : Int) = 2) by decide, if_false] at hfit
        rw [hg]
        (repeat' (first | (with_reducible first|refine z0 ?_|refine z1 ?_|refine z2 ?_|refine z3 ?_|refine z4 ?_|refine z5 ?_|refine z6 ?_|refine z7 ?_|refine z8 ?_|refine z9 ?_|refine z10 ?_|refine z11 ?_|refine z12 ?_|refine z13 ?_|refine z14 ?_|refine z15 ?_|refine z16 ?_|refine z17 ?_|refine z18 ?_|refine z19 ?_|refine z20 ?_|refine z21 ?_|refine z22 ?_|refine z23 ?_|refine z24 ?_) | (((with_reducible first|refine z25 ?_|refine z26 ?_|refine z27 ?_|refine z28 ?_);intro K hK;(conv=>whnf))) | (with_reducible first|(refine hK _ _ ?_;clear hK K)|(refine hA ?_;clear hA hB A B)|(refine hB ?_;clear hA hB A B)|(refine hK _ ?_;clear hK K)) | ((with_reducible refine z29 ?_);intro A B hA hB;(conv=>whnf)) | (refine z30 (by decide) ?_) | ((first|refine z31 rfl ?_|refine z32 rfl ?_|refine z33 rfl ?_);intro K hK;(conv=>whnf)) | (refine z34 (by kernel_rfl) (by kernel_rfl) ?_) | (((with_reducible first|refine NV.quo ?s ?_|refine NV.rem ?s ?_|refine NV.i64 ?s ?_|refine NV.u32 ?s ?_|refine NV.u8 ?s ?_|refine NV.u64 ?s ?_);case s=>omega)<;>(conv=>whnf)) | ((with_reducible first|refine NV.divk ?_|refine NV.modk ?_|refine NN.lit ?_|refine NN.cast ?_|refine NN.a1 ?_|refine NN.a2 ?_|refine NN.a3 ?_|refine NN.a4 ?_|refine NN.a5 ?_|refine NN.a6 ?_|refine NV.keep ?_|refine NN.keep ?_|refine NS.keep ?_|refine NIf.not_ ?_)<;>(conv=>whnf)) | (((with_reducible refine NH.mk ?s ?_);case s=>(and_intros <;> first | with_reducible rfl | omega | assumption | exact Nat.le_of_ble_eq_true rfl | (simp only [List.length_append, List.length_cons, List.length_nil]; omega) | rfl))<;>(conv=>whnf)) | (((with_reducible refine NIf.decY ?s ?_);case s=>first|with_reducible rfl|assumption|omega)<;>(conv=>whnf)) | (((with_reducible refine NIf.decN ?s ?_);case s=>first|with_reducible rfl|assumption|omega)<;>(conv=>whnf)) | (((with_reducible refine NIf.yes ?s ?_);case s=>first|rfl|assumption)<;>(conv=>whnf)) | (((with_reducible refine NIf.no ?s ?_);case s=>first|rfl|assumption)<;>(conv=>whnf)) | (((with_reducible refine NLd.of (by with_reducible assumption) ?_))<;>(conv=>whnf)) | ((refine NFlat_iff.2 ⟨⟨?s1,?s2⟩,?_⟩;(case s1=>decide +kernel);(case s2=>decide +kernel))<;>(conv=>whnf)) | ((with_reducible first|refine NIf.dec (fun _=>?_) (fun _=>?_)|refine NIf.both (fun _=>?_) (fun _=>?_))<;>(conv=>whnf)) | ((intro _;skip)<;>(conv=>whnf))))
        refine ⟨rfl, hfit u _ (MemFits.pre 4 ?_)⟩
        rfl
    · obtain ⟨k1, k2⟩ := keep (fun h => hg h.2.2.2)
      rw [k1, k2] at hfit
      have hg : Ac.unseen xf s = false := by simpa using hg
      generalize Ac.avs (Ac.fold s).reverse = ps at *
      rcases field4 hf with rfl | rfl | rfl | rfl
      all_goals
        simp only [d0, false_or, true_and, if_true, show ¬ ((0 : Int) = 1) by decide, show ¬ ((0 : Int) = 2) by decide, show ¬ ((0 : Int) = 3) by decide, show ¬ ((1 : Int) = 0) by decide, show ¬ ((1 : Int) = 2) by decide, show ¬ ((2 : Int) = 0) by decide, show ¬ ((2 : Int) = 1) by decide, show ¬ ((2 : Int) = 3) by decide, show ¬ ((3 : Int) = 0) by decide, show ¬ ((3 : Int) = 1) by decide, show ¬ ((3 : Int) = 2) by decide, if_false] at hfit
        rw [hg]
        (repeat' (first | (with_reducible first|refine z0 ?_|refine z1 ?_|refine z2 ?_|refine z3 ?_|refine z4 ?_|refine z5 ?_|refine z6 ?_|refine z7 ?_|refine z8 ?_|refine z9 ?_|refine z10 ?_|refine z11 ?_|refine z12 ?_|refine z13 ?_|refine z14 ?_|refine z15 ?_|refine z16 ?_|refine z17 ?_|refine z18 ?_|refine z19 ?_|refine z20 ?_|refine z21 ?_|refine z22 ?_|refine z23 ?_|refine z24 ?_) | (((with_reducible first|refine z25 ?_|refine z26 ?_|refine z27 ?_|refine z28 ?_);intro K hK;(conv=>whnf))) | (with_reducible first|(refine hK _ _ ?_;clear hK K)|(refine hA ?_;clear hA hB A B)|(refine hB ?_;clear hA hB A B)|(refine hK _ ?_;clear hK K)) | ((with_reducible refine z29 ?_);intro A B hA hB;(conv=>whnf)) | (refine z30 (by decide) ?_) | ((first|refine z31 rfl ?_|refine z32 rfl ?_|refine z33 rfl ?_);intro K hK;(conv=>whnf)) | (refine z34 (by kernel_rfl) (by kernel_rfl) ?_) | (((with_reducible first|refine NV.quo ?s ?_|refine NV.rem ?s ?_|refine NV.i64 ?s ?_|refine NV.u32 ?s ?_|refine NV.u8 ?s ?_|refine NV.u64 ?s ?_);case s=>omega)<;>(conv=>whnf)) | ((with_reducible first|refine NV.divk ?_|refine NV.modk ?_|refine NN.lit ?_|refine NN.cast ?_|refine NN.a1 ?_|refine NN.a2 ?_|refine NN.a3 ?_|refine NN.a4 ?_|refine NN.a5 ?_|refine NN.a6 ?_|refine NV.keep ?_|refine NN.keep ?_|refine NS.keep ?_|refine NIf.not_ ?_)<;>(conv=>whnf)) | (((with_reducible refine NH.mk ?s ?_);case s=>(and_intros <;> first | with_reducible rfl | omega | assumption | exact Nat.le_of_ble_eq_true rfl | (simp only [List.length_append, List.length_cons, List.length_nil]; omega) | rfl))<;>(conv=>whnf)) | (((with_reducible refine NIf.decY ?s ?_);case s=>first|with_reducible rfl|assumption|omega)<;>(conv=>whnf)) | (((with_reducible refine NIf.decN ?s ?_);case s=>first|with_reducible rfl|assumption|omega)<;>(conv=>whnf)) | (((with_reducible refine NIf.yes ?s ?_);case s=>first|rfl|assumption)<;>(conv=>whnf)) | (((with_reducible refine NIf.no ?s ?_);case s=>first|rfl|assumption)<;>(conv=>whnf)) | (((with_reducible refine NLd.of (by with_reducible assumption) ?_))<;>(conv=>whnf)) | ((refine NFlat_iff.2 ⟨⟨?s1,?s2⟩,?_⟩;(case s1=>decide +kernel);(case s2=>decide +kernel))<;>(conv=>whnf)) | ((with_reducible first|refine NIf.dec (fun _=>?_) (fun _=>?_)|refine NIf.both (fun _=>?_) (fun _=>?_))<;>(conv=>whnf)) | ((intro _;skip)<;>(conv=>whnf))))
        all_goals
          rename_i v2
          refine ⟨rfl, hfit v2 _ (MemFits.pre 4 ?_)⟩
          rfl
  · rintro m2 ⟨Au', Ao', cap', g', j', u, e3, e4, e9, rfl⟩
    obtain rfl := ptr_inj (show some (AV.ptr 2 ⟨Ao, 0, none⟩ 0) = some (AV.ptr 2 ⟨Ao', 0, none⟩ 0) from e4)
    clear e3 e4 e9
    rw [Ac.suf_all]
    have hr := reverse9_c u (Ac.fold l).reverse (by have := Ac.fold_len l; simp; omega)
    rw [List.length_reverse, List.reverse_reverse] at hr
    have hsz : ∀ m3, MemFits m3 [hpB (addF F cap' [v]), ⟨addrOf u, Ac.avs (Ac.fold l), .row u 40 3 (Ac.fold l).length⟩] → ∃ u' l', l' = Ac.fold l ∧ (AV.sl 3 u (Ac.fold l).length).den = slOf u' ∧ MemFits m3 [hpB F, ⟨addrOf u', Ac.avs l', .row u' 40 3 l'.length⟩] :=
      fun m3 h => ⟨u, _, rfl, rfl, h.trans (MemFits.less addF.old _)⟩
    unfold foldM
    unfold actRow at hr
    rw [List.length_reverse] at hr
    (repeat' (first | (with_reducible first|refine z0 ?_|refine z1 ?_|refine z2 ?_|refine z3 ?_|refine z4 ?_|refine z5 ?_|refine z6 ?_|refine z7 ?_|refine z8 ?_|refine z9 ?_|refine z10 ?_|refine z11 ?_|refine z12 ?_|refine z13 ?_|refine z14 ?_|refine z15 ?_|refine z16 ?_|refine z17 ?_|refine z18 ?_|refine z19 ?_|refine z20 ?_|refine z21 ?_|refine z22 ?_|refine z23 ?_|refine z24 ?_) | (((with_reducible first|refine z25 ?_|refine z26 ?_|refine z27 ?_|refine z28 ?_);intro K hK;(conv=>whnf))) | (with_reducible first|(refine hK _ _ ?_;clear hK K)|(refine hA ?_;clear hA hB A B)|(refine hB ?_;clear hA hB A B)|(refine hK _ ?_;clear hK K)) | ((with_reducible refine z29 ?_);intro A B hA hB;(conv=>whnf)) | (refine z30 (by decide) ?_) | ((first|refine z31 rfl ?_|refine z32 rfl ?_|refine z33 rfl ?_);intro K hK;(conv=>whnf)) | (refine z34 (by kernel_rfl) (by kernel_rfl) ?_) | ((with_reducible refine NCall.isF 86 ?_); (refine NCall.subw [3] _ _ (hr) rfl (by decide) rfl ?_; rintro _ _ ⟨rfl, rfl⟩; refine ⟨Nat.le_of_ble_eq_true rfl, _, rfl, ?_⟩; (conv=>whnf))) | (((with_reducible first|refine NV.quo ?s ?_|refine NV.rem ?s ?_|refine NV.i64 ?s ?_|refine NV.u32 ?s ?_|refine NV.u8 ?s ?_|refine NV.u64 ?s ?_);case s=>omega)<;>(conv=>whnf)) | ((with_reducible first|refine NV.divk ?_|refine NV.modk ?_|refine NN.lit ?_|refine NN.cast ?_|refine NN.a1 ?_|refine NN.a2 ?_|refine NN.a3 ?_|refine NN.a4 ?_|refine NN.a5 ?_|refine NN.a6 ?_|refine NV.keep ?_|refine NN.keep ?_|refine NS.keep ?_|refine NIf.not_ ?_)<;>(conv=>whnf)) | (((with_reducible refine NH.mk ?s ?_);case s=>(and_intros <;> first | with_reducible rfl | omega | assumption | exact Nat.le_of_ble_eq_true rfl | (simp only [List.length_append, List.length_cons, List.length_nil]; omega) | rfl))<;>(conv=>whnf)) | (((with_reducible refine NIf.decY ?s ?_);case s=>first|with_reducible rfl|assumption|omega)<;>(conv=>whnf)) | (((with_reducible refine NIf.decN ?s ?_);case s=>first|with_reducible rfl|assumption|omega)<;>(conv=>whnf)) | (((with_reducible refine NIf.yes ?s ?_);case s=>first|rfl|assumption)<;>(conv=>whnf)) | (((with_reducible refine NIf.no ?s ?_);case s=>first|rfl|assumption)<;>(conv=>whnf)) | (((with_reducible refine NLd.of (by with_reducible assumption) ?_))<;>(conv=>whnf)) | ((refine NFlat_iff.2 ⟨⟨?s1,?s2⟩,?_⟩;(case s1=>decide +kernel);(case s2=>decide +kernel))<;>(conv=>whnf)) | ((with_reducible first|refine NIf.dec (fun _=>?_) (fun _=>?_)|refine NIf.both (fun _=>?_) (fun _=>?_))<;>(conv=>whnf)) | ((intro _;skip)<;>(conv=>whnf))))
    conv => whnf
    refine hsz _ ?_
    exact MemFits.pick [0, 3] (by decide) rfl
theorem fold9_c (F : Heap) (v : Value) (l : List Ac.A) (hv : RowF F 3 (fun x vs => vs = Ac.actV x) v l) (hn : l.length ≤ 1000) :
    NCall Tryd.prog 38 [.hs v l.length] [hpB F] fun r m => ∃ F' u l', l' = Ac.fold l ∧ F.le F' ∧ r = .hs u l'.length ∧ m = [hpB F'] ∧ RowF F' 3 (fun x us => us = Ac.actV x) u l' :=
  NCall.grow Ac.actV Ac.avs (fun l' => l' = Ac.fold l) (fold9_raw F v l hv hn) Ac.avs_den (fun _ => rfl)
end Go.Proofs.YtokbckflleaplaaDoor
