/-
  The lexer, walked: all tokens; tokens held against each other; the chapter's example; blanks more.
-/
import Derived.Test.YtokpkddeijfjjaaDoorLxW3
namespace Go.Proofs.YtokpkddeijfjjaaDoor
open Go.Sx
set_option maxRecDepth 20000
set_option linter.unusedSimpArgs false
set_option linter.unusedVariables false
set_option linter.unusedVariables false
namespace Lx
structure T where
  k : Int
  n : Int
  s : List UInt8
  at_ : Int
def tokV (x : T) : List Value := [.int .i64 x.k, .int .i64 x.n, .string ⟨x.s.toArray⟩, .int .i64 x.at_]
def tokC (x : T) : List AV := [.int .i64 x.k, .int .i64 x.n, .str x.s, .int .i64 x.at_]
theorem tokC_den (l : List T) : denL (l.flatMap tokC) = l.flatMap tokV := by
  induction l with
  | nil => rfl
  | cons x l ih => simp only [List.flatMap_cons, denL_append, ih]; rfl
theorem tokC_len (l : List T) : (l.flatMap tokC).length = l.length * 4 := by
  induction l with
  | nil => rfl
  | cons x l ih => simp only [List.flatMap_cons, List.length_append, ih, List.length_cons]; simp [tokC]; omega
theorem tokC_ones (l : List T) : ones (l.flatMap tokC) = true := by
  induction l with
  | nil => rfl
  | cons x l ih => simp only [List.flatMap_cons, tokC, List.cons_append, List.nil_append, ones]; exact ih
def tokAt (tx : List UInt8) (x : B × List UInt8) : T := ⟨x.1.k, x.1.n, x.1.s, tx.length - x.2.length⟩
def res (tx : List UInt8) (L : List (B × List UInt8)) : List T := L.map (tokAt tx) ++ [⟨4, 0, [], tx.length⟩]
def good (tx : List UInt8) : Prop := ∃ L, toks tx = some L ∧ L.length ≤ 500
theorem drop_sk (tx : List UInt8) (i : Nat) (hi : i ≤ tx.length) : tx.drop (sk tx i) = skip (tx.drop i) ∧ i ≤ sk tx i ∧ sk tx i ≤ tx.length := by
  have hl := skip_len (tx.drop i).length (tx.drop i) (Nat.le_refl _)
  rw [List.length_drop] at hl
  unfold sk
  refine ⟨?_, by omega, by omega⟩
  by_cases h : skip (tx.drop i) = []
  · rw [h]; simp
  · obtain ⟨b, hb, _⟩ := skip_split (tx.drop i).length (tx.drop i) (Nat.le_refl _) h
    have e := congrArg List.length hb
    rw [List.length_drop, List.length_append] at e
    generalize skip (tx.drop i) = q at *
    have : tx = tx.take i ++ (b ++ q) := by rw [← hb]; simp
    have hp : tx.length - q.length = (tx.take i ++ b).length := by rw [List.length_append, List.length_take]; omega
    rw [hp, this]
    have e2 : (List.take i (List.take i tx ++ (b ++ q)) ++ b) = List.take i tx ++ b := by
      rw [List.take_append_of_le_length (by rw [List.length_take]; omega), List.take_take, Nat.min_self]
    rw [e2, ← List.append_assoc, List.drop_left]
structure St (tx : List UInt8) (i : Nat) (out : List T) : Prop where
  le : i ≤ tx.length
  few : out.length ≤ 500
  is : ∃ pre, out = pre.map (tokAt tx) ∧ toks tx = (toks (tx.drop i)).map (pre ++ ·)
theorem St.begin (tx : List UInt8) : St tx 0 [] := ⟨Nat.zero_le _, Nat.zero_le _, [], rfl, by simp⟩
theorem St.done {tx : List UInt8} {i : Nat} {out : List T} (h : St tx i out) (e : sk tx i = tx.length) : ∃ L, toks tx = some L ∧ L.length ≤ 500 ∧ out ++ [⟨4, 0, [], tx.length⟩] = res tx L := by
  obtain ⟨pre, h1, h2⟩ := h.is
  have hd := (drop_sk tx i h.le).1
  rw [e, List.drop_length] at hd
  rw [toks_nil hd.symm] at h2
  refine ⟨pre, by rw [h2]; simp, ?_, by rw [h1]; rfl⟩
  have := h.few
  rw [h1, List.length_map] at this
  exact this
theorem St.bad {tx : List UInt8} {i : Nat} {out : List T} (h : St tx i out) (e : sk tx i < tx.length) (hn : nextB (tx.drop (sk tx i)) = none) : ¬ good tx := by
  obtain ⟨pre, h1, h2⟩ := h.is
  have hd := (drop_sk tx i h.le).1
  rw [hd] at hn
  have hne : skip (tx.drop i) ≠ [] := by
    rw [← hd]; intro e2
    have := congrArg List.length e2
    rw [List.length_drop] at this
    simp at this; omega
  rw [toks_none hne hn] at h2
  rintro ⟨L, h3, _⟩
  rw [h2] at h3; cases h3
theorem St.next {tx : List UInt8} {i : Nat} {out : List T} (h : St tx i out) (e : sk tx i < tx.length) {b : B} {n : Nat} (hn : nextB (tx.drop (sk tx i)) = some (b, n)) :
    i < sk tx i + n ∧ sk tx i + n ≤ tx.length ∧ (out.length < 500 → St tx (sk tx i + n) (out ++ [⟨b.k, b.n, b.s, sk tx i⟩])) ∧ (out.length = 500 → ¬ good tx) := by
  obtain ⟨pre, h1, h2⟩ := h.is
  obtain ⟨hd, hle, hle2⟩ := drop_sk tx i h.le
  have hp := nextB_pos hn
  rw [List.length_drop] at hp
  rw [hd] at hn
  have hne : skip (tx.drop i) ≠ [] := by
    rw [← hd]; intro e2
    have := congrArg List.length e2
    rw [List.length_drop] at this
    simp at this; omega
  rw [toks_cons hne hn, Option.map_map] at h2
  have hdr : (skip (tx.drop i)).drop n = tx.drop (sk tx i + n) := by rw [← hd, List.drop_drop]
  rw [hdr] at h2
  refine ⟨by omega, by omega, fun hl => ⟨by omega, by simp; omega, pre ++ [(b, skip (tx.drop i))], ?_, ?_⟩, fun hl => ?_⟩
  · rw [h1, List.map_append]
    congr 1
    have : ((tx.length : Int) - (skip (tx.drop i)).length) = (sk tx i : Nat) := by
      have : (skip (tx.drop i)).length = tx.length - sk tx i := by rw [← hd, List.length_drop]
      omega
    simp only [List.map_cons, List.map_nil, tokAt, this]
  · rw [h2]
    congr 1
    funext q
    simp
  · rintro ⟨L, h3, h4⟩
    rw [h2] at h3
    obtain ⟨q, _, rfl⟩ := Option.map_eq_some_iff.1 h3
    rw [h1, List.length_map] at hl
    simp at h4; omega
end Lx
def LexRaw (F : Heap) (tx : List UInt8) (r : AV) (m : List Blk) : Prop :=
  (∃ L v, Lx.toks tx = some L ∧ L.length ≤ 500 ∧ MemFits m [hpB F, ⟨addrOf v, (Lx.res tx L).flatMap Lx.tokC, .row v 53 4 (L.length + 1)⟩] ∧ r.den = (AV.tup [.sl 1 v (L.length + 1), .int .i64 0, .int .i64 0]).den) ∨
  (¬ Lx.good tx ∧ ∃ at_ e : Int, e ≠ 0 ∧ MemFits m [hpB F] ∧ r = .tup [.raw (.slice none 0 0), .int .i64 at_, .int .i64 e])
set_option maxHeartbeats 2000000 in
theorem lex_raw (F : Heap) (tx : List UInt8) (hs : tx.length ≤ 4000) : NCall Tryd.prog 22 [.str tx] [hpB F] (LexRaw F tx) := by
  refine ncall_of Tryd.func22 rfl (by decide) ?_
  (repeat' (first | (with_reducible first|refine z0 ?_|refine z1 ?_|refine z2 ?_|refine z3 ?_|refine z4 ?_|refine z5 ?_|refine z6 ?_|refine z7 ?_|refine z8 ?_|refine z9 ?_|refine z10 ?_|refine z11 ?_|refine z12 ?_|refine z13 ?_|refine z14 ?_|refine z15 ?_|refine z16 ?_|refine z17 ?_|refine z18 ?_|refine z19 ?_|refine z20 ?_|refine z21 ?_|refine z22 ?_|refine z23 ?_|refine z24 ?_) | (((with_reducible first|refine z25 ?_|refine z26 ?_|refine z27 ?_|refine z28 ?_);intro K hK;(conv=>whnf))) | (with_reducible first|(refine hK _ _ ?_;clear hK K)|(refine hA ?_;clear hA hB A B)|(refine hB ?_;clear hA hB A B)|(refine hK _ ?_;clear hK K)) | ((with_reducible refine z29 ?_);intro A B hA hB;(conv=>whnf)) | (refine z30 (by decide) ?_) | ((first|refine z31 rfl ?_|refine z32 rfl ?_|refine z33 rfl ?_);intro K hK;(conv=>whnf)) | (refine z34 (by kernel_rfl) (by kernel_rfl) ?_) | (((with_reducible first|refine NV.quo ?s ?_|refine NV.rem ?s ?_|refine NV.i64 ?s ?_|refine NV.u32 ?s ?_|refine NV.u8 ?s ?_|refine NV.u64 ?s ?_);case s=>omega)<;>(conv=>whnf)) | ((with_reducible first|refine NV.divk ?_|refine NV.modk ?_|refine NN.lit ?_|refine NN.cast ?_|refine NN.a1 ?_|refine NN.a2 ?_|refine NN.a3 ?_|refine NN.a4 ?_|refine NN.a5 ?_|refine NN.a6 ?_|refine NV.keep ?_|refine NN.keep ?_|refine NS.keep ?_|refine NIf.not_ ?_)<;>(conv=>whnf)) | (((with_reducible refine NH.mk ?s ?_);case s=>(and_intros <;> first | with_reducible rfl | omega | assumption | exact Nat.le_of_ble_eq_true rfl | (simp only [List.length_append, List.length_cons, List.length_nil]; omega) | rfl))<;>(conv=>whnf)) | (((with_reducible refine NIf.decY ?s ?_);case s=>first|with_reducible rfl|assumption|omega)<;>(conv=>whnf)) | (((with_reducible refine NIf.decN ?s ?_);case s=>first|with_reducible rfl|assumption|omega)<;>(conv=>whnf)) | (((with_reducible refine NIf.yes ?s ?_);case s=>first|rfl|assumption)<;>(conv=>whnf)) | (((with_reducible refine NIf.no ?s ?_);case s=>first|rfl|assumption)<;>(conv=>whnf)) | (((with_reducible refine NLd.of (by with_reducible assumption) ?_))<;>(conv=>whnf)) | ((refine NFlat_iff.2 ⟨⟨?s1,?s2⟩,?_⟩;(case s1=>decide +kernel);(case s2=>decide +kernel))<;>(conv=>whnf)) | ((with_reducible first|refine NIf.dec (fun _=>?_) (fun _=>?_)|refine NIf.both (fun _=>?_) (fun _=>?_))<;>(conv=>whnf)) | ((intro _;skip)<;>(conv=>whnf))))
  rename_i b0
  refine st_auto (α := Nat × List Lx.T × Value) (fun x => Lx.St tx x.1 x.2.1) (fun x => [.keep, .keep, .drop, .drop, .drop, .keep, .set (.sl 2 x.2.2 x.2.1.length), .drop, .drop, .keep, .keep, .keep, .keep, .keep, .keep, .drop, .drop, .drop, .drop, .drop, .drop, .drop, .drop, .drop, .drop, .drop, .drop, .drop, .drop, .drop, .drop, .drop, .drop, .drop, .drop, .drop, .drop, .drop, .drop, .drop, .drop, .drop, .drop, .drop, .drop, .drop, .drop, .drop, .drop, .drop, .drop, .drop]) (fun x => [.keep, .set (LB ⟨b0, 0, none⟩ tx x.1), .set ⟨addrOf x.2.2, x.2.1.flatMap Lx.tokC, .row x.2.2 53 4 x.2.1.length⟩]) (fun x => tx.length - x.1) (0, [], .slice none 0 0) (Lx.St.begin tx) ?_ (MemFits.nilRow _ _ _) ?_
  · repeat (first | exact FitsSl.nil | refine FitsSl.any ?_ | refine FitsSl.cons (Fit1.int (by first | rfl | omega)) ?_ | refine FitsSl.cons (Fit1.bool rfl) ?_ | refine FitsSl.cons (Fit1.str rfl) ?_ | refine FitsSl.cons (Fit1.same (by intro h; cases h) (by with_reducible rfl)) ?_ | refine FitsSl.cons Fit1.nil_sl ?_ | refine FitsSl.cons (Fit1.hs rfl) ?_ | refine FitsSl.cons (Fit1.hp rfl rfl) ?_ | refine FitsSl.cons (Fit1.sl rfl) ?_ | refine FitsSl.cons (Fit1.ptr rfl rfl) ?_ | refine FitsSl.cons Fit1.raw ?_)
  (intro ⟨i, out, v⟩ hst; intro K hK; (conv=>whnf); refine hK _ _ ?_; clear hK K)
  dsimp only at hst ⊢
  obtain ⟨hd, hle, hle2⟩ := Lx.drop_sk tx i hst.le
  have hsk := skip_c ⟨b0, 0, none⟩ tx i hst.le (by omega)
  have hdone := hst.done
  have hbad := hst.bad
  have hnext := @Lx.St.next _ _ _ hst
  have hfew := hst.few
  have hol := Lx.tokC_len out
  generalize Lx.sk tx i = j at *
  by_cases hj : j = tx.length
  · obtain ⟨L, hL, hLl, hres⟩ := hdone hj
    have hll : out.length = L.length := by
      have := congrArg List.length hres
      simpa [Lx.res] using this
    subst hj
    (repeat' (first | (with_reducible first|refine z0 ?_|refine z1 ?_|refine z2 ?_|refine z3 ?_|refine z4 ?_|refine z5 ?_|refine z6 ?_|refine z7 ?_|refine z8 ?_|refine z9 ?_|refine z10 ?_|refine z11 ?_|refine z12 ?_|refine z13 ?_|refine z14 ?_|refine z15 ?_|refine z16 ?_|refine z17 ?_|refine z18 ?_|refine z19 ?_|refine z20 ?_|refine z21 ?_|refine z22 ?_|refine z23 ?_|refine z24 ?_) | (((with_reducible first|refine z25 ?_|refine z26 ?_|refine z27 ?_|refine z28 ?_);intro K hK;(conv=>whnf))) | (with_reducible first|(refine hK _ _ ?_;clear hK K)|(refine hA ?_;clear hA hB A B)|(refine hB ?_;clear hA hB A B)|(refine hK _ ?_;clear hK K)) | ((with_reducible refine z29 ?_);intro A B hA hB;(conv=>whnf)) | (refine z30 (by decide) ?_) | ((first|refine z31 rfl ?_|refine z32 rfl ?_|refine z33 rfl ?_);intro K hK;(conv=>whnf)) | (refine z34 (by kernel_rfl) (by kernel_rfl) ?_) | ((with_reducible refine NCall.isF 61 ?_); (refine NCall.subw [1] _ _ (hsk) rfl (by decide) rfl ?_; rintro _ _ ⟨rfl, rfl⟩; refine ⟨Nat.le_of_ble_eq_true rfl, _, rfl, ?_⟩; (conv=>whnf))) | (((with_reducible first|refine NV.quo ?s ?_|refine NV.rem ?s ?_|refine NV.i64 ?s ?_|refine NV.u32 ?s ?_|refine NV.u8 ?s ?_|refine NV.u64 ?s ?_);case s=>omega)<;>(conv=>whnf)) | ((with_reducible first|refine NV.divk ?_|refine NV.modk ?_|refine NN.lit ?_|refine NN.cast ?_|refine NN.a1 ?_|refine NN.a2 ?_|refine NN.a3 ?_|refine NN.a4 ?_|refine NN.a5 ?_|refine NN.a6 ?_|refine NV.keep ?_|refine NN.keep ?_|refine NS.keep ?_|refine NIf.not_ ?_)<;>(conv=>whnf)) | (((with_reducible refine NH.mk ?s ?_);case s=>(and_intros <;> first | with_reducible rfl | omega | assumption | exact Nat.le_of_ble_eq_true rfl | (simp only [List.length_append, List.length_cons, List.length_nil]; omega) | rfl))<;>(conv=>whnf)) | (((with_reducible refine NIf.decY ?s ?_);case s=>first|with_reducible rfl|assumption|omega)<;>(conv=>whnf)) | (((with_reducible refine NIf.decN ?s ?_);case s=>first|with_reducible rfl|assumption|omega)<;>(conv=>whnf)) | (((with_reducible refine NIf.yes ?s ?_);case s=>first|rfl|assumption)<;>(conv=>whnf)) | (((with_reducible refine NIf.no ?s ?_);case s=>first|rfl|assumption)<;>(conv=>whnf)) | (((with_reducible refine NLd.of (by with_reducible assumption) ?_))<;>(conv=>whnf)) | ((refine NFlat_iff.2 ⟨⟨?s1,?s2⟩,?_⟩;(case s1=>decide +kernel);(case s2=>decide +kernel))<;>(conv=>whnf)) | ((with_reducible first|refine NIf.dec (fun _=>?_) (fun _=>?_)|refine NIf.both (fun _=>?_) (fun _=>?_))<;>(conv=>whnf)) | ((intro _;skip)<;>(conv=>whnf))))
    rename_i b9 v2
    all_goals
      refine .inl ⟨L, v2, hL, hLl, MemFits.pick [0, 2] (by decide) ?_, ?_⟩
      · rw [← hres, ← hll, List.flatMap_append]
        rfl
      · simp only [AV.den, denL, slOf, hll]
  · have hjl : j < tx.length := by omega
    have hnx := next_c ⟨b0, 0, none⟩ tx j hjl (by omega)
    cases hn : Lx.nextB (tx.drop j) with
    | none =>
      have hbd := hbad hjl hn
      have hnx := hnx.mono (K' := fun r m => r = .tup [tokAV 0 0 [] j, .bool false] ∧ ∃ q, MemFits m [LB ⟨b0, 0, none⟩ tx q]) fun r m h => h.2 hn
      have hnx : NCall Tryd.prog 62 [.ptr 0 ⟨b0, 0, none⟩ 0] [LB ⟨b0, 0, none⟩ tx j] fun r m => r = .tup [tokAV 0 0 [] j, .bool false] ∧ ∃ q, m = [LB ⟨b0, 0, none⟩ tx q] := hnx.fits fun r m h => by
        obtain ⟨h1, q, h2⟩ := h
        exact ⟨r, _, rfl, h2, h1, q, rfl⟩
      unfold tokAV at hnx
      (repeat' (first | (with_reducible first|refine z0 ?_|refine z1 ?_|refine z2 ?_|refine z3 ?_|refine z4 ?_|refine z5 ?_|refine z6 ?_|refine z7 ?_|refine z8 ?_|refine z9 ?_|refine z10 ?_|refine z11 ?_|refine z12 ?_|refine z13 ?_|refine z14 ?_|refine z15 ?_|refine z16 ?_|refine z17 ?_|refine z18 ?_|refine z19 ?_|refine z20 ?_|refine z21 ?_|refine z22 ?_|refine z23 ?_|refine z24 ?_) | (((with_reducible first|refine z25 ?_|refine z26 ?_|refine z27 ?_|refine z28 ?_);intro K hK;(conv=>whnf))) | (with_reducible first|(refine hK _ _ ?_;clear hK K)|(refine hA ?_;clear hA hB A B)|(refine hB ?_;clear hA hB A B)|(refine hK _ ?_;clear hK K)) | ((with_reducible refine z29 ?_);intro A B hA hB;(conv=>whnf)) | (refine z30 (by decide) ?_) | ((first|refine z31 rfl ?_|refine z32 rfl ?_|refine z33 rfl ?_);intro K hK;(conv=>whnf)) | (refine z34 (by kernel_rfl) (by kernel_rfl) ?_) | ((with_reducible refine NCall.isF 61 ?_); (refine NCall.subw [1] _ _ (hsk) rfl (by decide) rfl ?_; rintro _ _ ⟨rfl, rfl⟩; refine ⟨Nat.le_of_ble_eq_true rfl, _, rfl, ?_⟩; (conv=>whnf))) | ((with_reducible refine NCall.isF 62 ?_); (refine NCall.subw [1] _ _ (hnx) rfl (by decide) rfl ?_; rintro _ _ ⟨rfl, q, rfl⟩; refine ⟨Nat.le_of_ble_eq_true rfl, _, rfl, ?_⟩; (conv=>whnf))) | (((with_reducible first|refine NV.quo ?s ?_|refine NV.rem ?s ?_|refine NV.i64 ?s ?_|refine NV.u32 ?s ?_|refine NV.u8 ?s ?_|refine NV.u64 ?s ?_);case s=>omega)<;>(conv=>whnf)) | ((with_reducible first|refine NV.divk ?_|refine NV.modk ?_|refine NN.lit ?_|refine NN.cast ?_|refine NN.a1 ?_|refine NN.a2 ?_|refine NN.a3 ?_|refine NN.a4 ?_|refine NN.a5 ?_|refine NN.a6 ?_|refine NV.keep ?_|refine NN.keep ?_|refine NS.keep ?_|refine NIf.not_ ?_)<;>(conv=>whnf)) | (((with_reducible refine NH.mk ?s ?_);case s=>(and_intros <;> first | with_reducible rfl | omega | assumption | exact Nat.le_of_ble_eq_true rfl | (simp only [List.length_append, List.length_cons, List.length_nil]; omega) | rfl))<;>(conv=>whnf)) | (((with_reducible refine NIf.decY ?s ?_);case s=>first|with_reducible rfl|assumption|omega)<;>(conv=>whnf)) | (((with_reducible refine NIf.decN ?s ?_);case s=>first|with_reducible rfl|assumption|omega)<;>(conv=>whnf)) | (((with_reducible refine NIf.yes ?s ?_);case s=>first|rfl|assumption)<;>(conv=>whnf)) | (((with_reducible refine NIf.no ?s ?_);case s=>first|rfl|assumption)<;>(conv=>whnf)) | (((with_reducible refine NLd.of (by with_reducible assumption) ?_))<;>(conv=>whnf)) | ((refine NFlat_iff.2 ⟨⟨?s1,?s2⟩,?_⟩;(case s1=>decide +kernel);(case s2=>decide +kernel))<;>(conv=>whnf)) | ((with_reducible first|refine NIf.dec (fun _=>?_) (fun _=>?_)|refine NIf.both (fun _=>?_) (fun _=>?_))<;>(conv=>whnf)) | ((intro _;skip)<;>(conv=>whnf))))
      all_goals exact .inr ⟨hbd, _, _, by decide, MemFits.pick [0] (by decide) rfl, rfl⟩
    | some bn =>
      obtain ⟨b, n⟩ := bn
      obtain ⟨h1, h2, h3, h4⟩ := hnext hjl hn
      have hnx : NCall Tryd.prog 62 [.ptr 0 ⟨b0, 0, none⟩ 0] [LB ⟨b0, 0, none⟩ tx j] fun r m => r = .tup [tokAV b.k b.n b.s j, .bool true] ∧ m = [LB ⟨b0, 0, none⟩ tx (j + n)] := hnx.fits fun r m h => by
        obtain ⟨h5, h6⟩ := h.1 b n hn
        exact ⟨r, _, rfl, h6, h5, rfl⟩
      unfold tokAV at hnx
      by_cases hf : out.length = 500
      · have hbd := h4 hf
        (repeat' (first | (with_reducible first|refine z0 ?_|refine z1 ?_|refine z2 ?_|refine z3 ?_|refine z4 ?_|refine z5 ?_|refine z6 ?_|refine z7 ?_|refine z8 ?_|refine z9 ?_|refine z10 ?_|refine z11 ?_|refine z12 ?_|refine z13 ?_|refine z14 ?_|refine z15 ?_|refine z16 ?_|refine z17 ?_|refine z18 ?_|refine z19 ?_|refine z20 ?_|refine z21 ?_|refine z22 ?_|refine z23 ?_|refine z24 ?_) | (((with_reducible first|refine z25 ?_|refine z26 ?_|refine z27 ?_|refine z28 ?_);intro K hK;(conv=>whnf))) | (with_reducible first|(refine hK _ _ ?_;clear hK K)|(refine hA ?_;clear hA hB A B)|(refine hB ?_;clear hA hB A B)|(refine hK _ ?_;clear hK K)) | ((with_reducible refine z29 ?_);intro A B hA hB;(conv=>whnf)) | (refine z30 (by decide) ?_) | ((first|refine z31 rfl ?_|refine z32 rfl ?_|refine z33 rfl ?_);intro K hK;(conv=>whnf)) | (refine z34 (by kernel_rfl) (by kernel_rfl) ?_) | ((with_reducible refine NCall.isF 61 ?_); (refine NCall.subw [1] _ _ (hsk) rfl (by decide) rfl ?_; rintro _ _ ⟨rfl, rfl⟩; refine ⟨Nat.le_of_ble_eq_true rfl, _, rfl, ?_⟩; (conv=>whnf))) | ((with_reducible refine NCall.isF 62 ?_); (refine NCall.subw [1] _ _ (hnx) rfl (by decide) rfl ?_; rintro _ _ ⟨rfl, rfl⟩; refine ⟨Nat.le_of_ble_eq_true rfl, _, rfl, ?_⟩; (conv=>whnf))) | (((with_reducible first|refine NV.quo ?s ?_|refine NV.rem ?s ?_|refine NV.i64 ?s ?_|refine NV.u32 ?s ?_|refine NV.u8 ?s ?_|refine NV.u64 ?s ?_);case s=>omega)<;>(conv=>whnf)) | ((with_reducible first|refine NV.divk ?_|refine NV.modk ?_|refine NN.lit ?_|refine NN.cast ?_|refine NN.a1 ?_|refine NN.a2 ?_|refine NN.a3 ?_|refine NN.a4 ?_|refine NN.a5 ?_|refine NN.a6 ?_|refine NV.keep ?_|refine NN.keep ?_|refine NS.keep ?_|refine NIf.not_ ?_)<;>(conv=>whnf)) | (((with_reducible refine NH.mk ?s ?_);case s=>(and_intros <;> first | with_reducible rfl | omega | assumption | exact Nat.le_of_ble_eq_true rfl | (simp only [List.length_append, List.length_cons, List.length_nil]; omega) | rfl))<;>(conv=>whnf)) | (((with_reducible refine NIf.decY ?s ?_);case s=>first|with_reducible rfl|assumption|omega)<;>(conv=>whnf)) | (((with_reducible refine NIf.decN ?s ?_);case s=>first|with_reducible rfl|assumption|omega)<;>(conv=>whnf)) | (((with_reducible refine NIf.yes ?s ?_);case s=>first|rfl|assumption)<;>(conv=>whnf)) | (((with_reducible refine NIf.no ?s ?_);case s=>first|rfl|assumption)<;>(conv=>whnf)) | (((with_reducible refine NLd.of (by with_reducible assumption) ?_))<;>(conv=>whnf)) | ((refine NFlat_iff.2 ⟨⟨?s1,?s2⟩,?_⟩;(case s1=>decide +kernel);(case s2=>decide +kernel))<;>(conv=>whnf)) | ((with_reducible first|refine NIf.dec (fun _=>?_) (fun _=>?_)|refine NIf.both (fun _=>?_) (fun _=>?_))<;>(conv=>whnf)) | ((intro _;skip)<;>(conv=>whnf))))
        all_goals exact .inr ⟨hbd, _, _, by decide, MemFits.pick [0] (by decide) rfl, rfl⟩
      · have hst2 := h3 (by omega)
        (repeat' (first | (with_reducible first|refine z0 ?_|refine z1 ?_|refine z2 ?_|refine z3 ?_|refine z4 ?_|refine z5 ?_|refine z6 ?_|refine z7 ?_|refine z8 ?_|refine z9 ?_|refine z10 ?_|refine z11 ?_|refine z12 ?_|refine z13 ?_|refine z14 ?_|refine z15 ?_|refine z16 ?_|refine z17 ?_|refine z18 ?_|refine z19 ?_|refine z20 ?_|refine z21 ?_|refine z22 ?_|refine z23 ?_|refine z24 ?_) | (((with_reducible first|refine z25 ?_|refine z26 ?_|refine z27 ?_|refine z28 ?_);intro K hK;(conv=>whnf))) | (with_reducible first|(refine hK _ _ ?_;clear hK K)|(refine hA ?_;clear hA hB A B)|(refine hB ?_;clear hA hB A B)|(refine hK _ ?_;clear hK K)) | ((with_reducible refine z29 ?_);intro A B hA hB;(conv=>whnf)) | (refine z30 (by decide) ?_) | ((first|refine z31 rfl ?_|refine z32 rfl ?_|refine z33 rfl ?_);intro K hK;(conv=>whnf)) | (refine z34 (by kernel_rfl) (by kernel_rfl) ?_) | ((with_reducible refine NCall.isF 61 ?_); (refine NCall.subw [1] _ _ (hsk) rfl (by decide) rfl ?_; rintro _ _ ⟨rfl, rfl⟩; refine ⟨Nat.le_of_ble_eq_true rfl, _, rfl, ?_⟩; (conv=>whnf))) | ((with_reducible refine NCall.isF 62 ?_); (refine NCall.subw [1] _ _ (hnx) rfl (by decide) rfl ?_; rintro _ _ ⟨rfl, rfl⟩; refine ⟨Nat.le_of_ble_eq_true rfl, _, rfl, ?_⟩; (conv=>whnf))) | (((with_reducible first|refine NV.quo ?s ?_|refine NV.rem ?s ?_|refine NV.i64 ?s ?_|refine NV.u32 ?s ?_|refine NV.u8 ?s ?_|refine NV.u64 ?s ?_);case s=>omega)<;>(conv=>whnf)) | ((with_reducible first|refine NV.divk ?_|refine NV.modk ?_|refine NN.lit ?_|refine NN.cast ?_|refine NN.a1 ?_|refine NN.a2 ?_|refine NN.a3 ?_|refine NN.a4 ?_|refine NN.a5 ?_|refine NN.a6 ?_|refine NV.keep ?_|refine NN.keep ?_|refine NS.keep ?_|refine NIf.not_ ?_)<;>(conv=>whnf)) | (((with_reducible refine NH.mk ?s ?_);case s=>(and_intros <;> first | with_reducible rfl | omega | assumption | exact Nat.le_of_ble_eq_true rfl | (simp only [List.length_append, List.length_cons, List.length_nil]; omega) | rfl))<;>(conv=>whnf)) | (((with_reducible refine NIf.decY ?s ?_);case s=>first|with_reducible rfl|assumption|omega)<;>(conv=>whnf)) | (((with_reducible refine NIf.decN ?s ?_);case s=>first|with_reducible rfl|assumption|omega)<;>(conv=>whnf)) | (((with_reducible refine NIf.yes ?s ?_);case s=>first|rfl|assumption)<;>(conv=>whnf)) | (((with_reducible refine NIf.no ?s ?_);case s=>first|rfl|assumption)<;>(conv=>whnf)) | (((with_reducible refine NLd.of (by with_reducible assumption) ?_))<;>(conv=>whnf)) | ((refine NFlat_iff.2 ⟨⟨?s1,?s2⟩,?_⟩;(case s1=>decide +kernel);(case s2=>decide +kernel))<;>(conv=>whnf)) | ((with_reducible first|refine NIf.dec (fun _=>?_) (fun _=>?_)|refine NIf.both (fun _=>?_) (fun _=>?_))<;>(conv=>whnf)) | ((intro _;skip)<;>(conv=>whnf))))
        rename_i v2
        refine st_round (j + n, out ++ [⟨b.k, b.n, b.s, j⟩], v2) hst2 (by dsimp only; omega) ?_ (MemFits.trans (MemFits.pre 3 rfl) (MemFits.eq ?_))
        · repeat (first | exact FitsSl.nil | refine FitsSl.any ?_ | refine FitsSl.cons (Fit1.int (by first | rfl | omega)) ?_ | refine FitsSl.cons (Fit1.bool rfl) ?_ | refine FitsSl.cons (Fit1.str rfl) ?_ | refine FitsSl.cons (Fit1.same (by intro h; cases h) (by with_reducible rfl)) ?_ | refine FitsSl.cons Fit1.nil_sl ?_ | refine FitsSl.cons (Fit1.hs rfl) ?_ | refine FitsSl.cons (Fit1.hp rfl rfl) ?_ | refine FitsSl.cons (Fit1.sl rfl) ?_ | refine FitsSl.cons (Fit1.ptr rfl rfl) ?_ | refine FitsSl.cons Fit1.raw ?_)
        · rw [List.flatMap_append, List.length_append]
          rfl
/-- Lex, told. -/
theorem lex_c (F : Heap) (tx : List UInt8) (hs : tx.length ≤ 4000) : NCall Tryd.prog 22 [.str tx] [hpB F] fun r m =>
    (∃ L F' v, Lx.toks tx = some L ∧ L.length ≤ 500 ∧ F.le F' ∧ m = [hpB F'] ∧ r = .tup [.hs v (Lx.res tx L).length, .int .i64 0, .int .i64 0] ∧ RowF F' 4 (fun x vs => vs = Lx.tokV x) v (Lx.res tx L)) ∨
    (¬ Lx.good tx ∧ ∃ at_ e : Int, e ≠ 0 ∧ m = [hpB F] ∧ r = .tup [.hs (.slice none 0 0) 0, .int .i64 at_, .int .i64 e]) := by
  refine Go.Sx.NCall.know (lex_raw F tx hs) fun r m' h ⟨w, hw⟩ => ?_
  rcases h with ⟨L, v, hL, hLl, hm, hr⟩ | ⟨hb, at_, e, he, hm, hr⟩
  · have hlen : (Lx.res tx L).length = L.length + 1 := by simp [Lx.res]
    obtain ⟨hok, _, hsl⟩ := (hm w hw).1.row (List.mem_cons_of_mem _ (List.mem_singleton.2 rfl))
    refine ⟨.tup [.hs v (Lx.res tx L).length, .int .i64 0, .int .i64 0], _, ?_, hm.trans (MemFits.freeze (m := [])), .inl ⟨L, _, v, hL, hLl, addF.old, rfl, rfl, rowF_new (by rw [hlen]; exact hok) (Lx.tokC_den _) (fun x _ => rfl)⟩⟩
    rw [hr]; rfl
  · exact ⟨.tup [.hs (.slice none 0 0) 0, .int .i64 at_, .int .i64 e], _, by rw [hr]; rfl, hm, .inr ⟨hb, at_, e, he, rfl, rfl⟩⟩
def Lx.b (x : Lx.T) : Lx.B := ⟨x.k, x.n, x.s⟩
theorem Lx.b_ne {x y : Lx.T} : Lx.b x = Lx.b y ↔ x.k = y.k ∧ x.n = y.n ∧ x.s = y.s := by
  unfold Lx.b; simp
theorem moved_c (F : Heap) (u v : Value) (a b : List Lx.T) (hu : RowF F 4 (fun x vs => vs = Lx.tokV x) u a) (hv : RowF F 4 (fun x vs => vs = Lx.tokV x) v b) (ha : a.length ≤ 9223372036854775807) (hb : b.length ≤ 9223372036854775807) :
    NCall Tryd.prog 24 [.hs u a.length, .hs v b.length] [hpB F] fun r m => ∃ t : Bool, r = .bool t ∧ m = [hpB F] ∧ (t = true ↔ a.map Lx.b = b.map Lx.b) := by
  refine ncall_of Tryd.func24 rfl (by decide) ?_
  have hou := hu.ok
  have hov := hv.ok
  by_cases hl : a.length = b.length
  · (repeat' (first | (with_reducible first|refine z0 ?_|refine z1 ?_|refine z2 ?_|refine z3 ?_|refine z4 ?_|refine z5 ?_|refine z6 ?_|refine z7 ?_|refine z8 ?_|refine z9 ?_|refine z10 ?_|refine z11 ?_|refine z12 ?_|refine z13 ?_|refine z14 ?_|refine z15 ?_|refine z16 ?_|refine z17 ?_|refine z18 ?_|refine z19 ?_|refine z20 ?_|refine z21 ?_|refine z22 ?_|refine z23 ?_|refine z24 ?_) | (((with_reducible first|refine z25 ?_|refine z26 ?_|refine z27 ?_|refine z28 ?_);intro K hK;(conv=>whnf))) | (with_reducible first|(refine hK _ _ ?_;clear hK K)|(refine hA ?_;clear hA hB A B)|(refine hB ?_;clear hA hB A B)|(refine hK _ ?_;clear hK K)) | ((with_reducible refine z29 ?_);intro A B hA hB;(conv=>whnf)) | (refine z30 (by decide) ?_) | ((first|refine z31 rfl ?_|refine z32 rfl ?_|refine z33 rfl ?_);intro K hK;(conv=>whnf)) | (refine z34 (by kernel_rfl) (by kernel_rfl) ?_) | (((with_reducible first|refine NV.quo ?s ?_|refine NV.rem ?s ?_|refine NV.i64 ?s ?_|refine NV.u32 ?s ?_|refine NV.u8 ?s ?_|refine NV.u64 ?s ?_);case s=>omega)<;>(conv=>whnf)) | ((with_reducible first|refine NV.divk ?_|refine NV.modk ?_|refine NN.lit ?_|refine NN.cast ?_|refine NN.a1 ?_|refine NN.a2 ?_|refine NN.a3 ?_|refine NN.a4 ?_|refine NN.a5 ?_|refine NN.a6 ?_|refine NV.keep ?_|refine NN.keep ?_|refine NS.keep ?_|refine NIf.not_ ?_)<;>(conv=>whnf)) | (((with_reducible refine NH.mk ?s ?_);case s=>(and_intros <;> first | with_reducible rfl | omega | assumption | exact Nat.le_of_ble_eq_true rfl | (simp only [List.length_append, List.length_cons, List.length_nil]; omega) | rfl))<;>(conv=>whnf)) | (((with_reducible refine NIf.decY ?s ?_);case s=>first|with_reducible rfl|assumption|omega)<;>(conv=>whnf)) | (((with_reducible refine NIf.decN ?s ?_);case s=>first|with_reducible rfl|assumption|omega)<;>(conv=>whnf)) | (((with_reducible refine NIf.yes ?s ?_);case s=>first|rfl|assumption)<;>(conv=>whnf)) | (((with_reducible refine NIf.no ?s ?_);case s=>first|rfl|assumption)<;>(conv=>whnf)) | (((with_reducible refine NLd.of (by with_reducible assumption) ?_))<;>(conv=>whnf)) | ((refine NFlat_iff.2 ⟨⟨?s1,?s2⟩,?_⟩;(case s1=>decide +kernel);(case s2=>decide +kernel))<;>(conv=>whnf)) | ((with_reducible first|refine NIf.dec (fun _=>?_) (fun _=>?_)|refine NIf.both (fun _=>?_) (fun _=>?_))<;>(conv=>whnf)) | ((intro _;skip)<;>(conv=>whnf))))
    refine st_auto (α := Nat) (fun k => k ≤ a.length ∧ (a.map Lx.b).take k = (b.map Lx.b).take k) (fun k => [.keep, .keep, .keep, .keep, .drop, .set (.int .i64 k), .keep, .keep, .keep, .keep, .keep, .drop, .drop, .drop, .drop, .drop, .drop, .drop, .drop, .drop, .drop, .drop, .drop, .drop, .drop, .drop, .drop, .drop, .drop, .drop, .drop, .drop, .drop, .drop, .drop, .drop, .drop, .drop, .drop, .drop, .drop, .drop, .drop, .drop, .drop, .drop, .drop, .drop, .drop, .drop, .drop, .drop, .drop, .drop]) (fun _ => []) (fun k => a.length - k) 0 ⟨Nat.zero_le _, rfl⟩ ?_ (MemFits.eq rfl) ?_
    · repeat (first | exact FitsSl.nil | refine FitsSl.any ?_ | refine FitsSl.cons (Fit1.int (by first | rfl | omega)) ?_ | refine FitsSl.cons (Fit1.bool rfl) ?_ | refine FitsSl.cons (Fit1.str rfl) ?_ | refine FitsSl.cons (Fit1.same (by intro h; cases h) (by with_reducible rfl)) ?_ | refine FitsSl.cons Fit1.nil_sl ?_ | refine FitsSl.cons (Fit1.hs rfl) ?_ | refine FitsSl.cons (Fit1.hp rfl rfl) ?_ | refine FitsSl.cons (Fit1.sl rfl) ?_ | refine FitsSl.cons (Fit1.ptr rfl rfl) ?_ | refine FitsSl.cons Fit1.raw ?_)
    (intro k ⟨hk, he⟩; intro K hK; (conv=>whnf); refine hK _ _ ?_; clear hK K)
    by_cases hlt : k < a.length
    · have hlt2 : k < b.length := by omega
      obtain ⟨e0, e1, e2, e3⟩ := hu.get4 hlt
      obtain ⟨f0, f1, f2, f3⟩ := hv.get4 hlt2
      by_cases hab : Lx.b a[k] = Lx.b b[k]
      · obtain ⟨g0, g1, g2⟩ := Lx.b_ne.1 hab
        (repeat' (first | (with_reducible first|refine z0 ?_|refine z1 ?_|refine z2 ?_|refine z3 ?_|refine z4 ?_|refine z5 ?_|refine z6 ?_|refine z7 ?_|refine z8 ?_|refine z9 ?_|refine z10 ?_|refine z11 ?_|refine z12 ?_|refine z13 ?_|refine z14 ?_|refine z15 ?_|refine z16 ?_|refine z17 ?_|refine z18 ?_|refine z19 ?_|refine z20 ?_|refine z21 ?_|refine z22 ?_|refine z23 ?_|refine z24 ?_) | (((with_reducible first|refine z25 ?_|refine z26 ?_|refine z27 ?_|refine z28 ?_);intro K hK;(conv=>whnf))) | (with_reducible first|(refine hK _ _ ?_;clear hK K)|(refine hA ?_;clear hA hB A B)|(refine hB ?_;clear hA hB A B)|(refine hK _ ?_;clear hK K)) | ((with_reducible refine z29 ?_);intro A B hA hB;(conv=>whnf)) | (refine z30 (by decide) ?_) | ((first|refine z31 rfl ?_|refine z32 rfl ?_|refine z33 rfl ?_);intro K hK;(conv=>whnf)) | (refine z34 (by kernel_rfl) (by kernel_rfl) ?_) | (((with_reducible first|refine NV.quo ?s ?_|refine NV.rem ?s ?_|refine NV.i64 ?s ?_|refine NV.u32 ?s ?_|refine NV.u8 ?s ?_|refine NV.u64 ?s ?_);case s=>omega)<;>(conv=>whnf)) | ((with_reducible first|refine NV.divk ?_|refine NV.modk ?_|refine NN.lit ?_|refine NN.cast ?_|refine NN.a1 ?_|refine NN.a2 ?_|refine NN.a3 ?_|refine NN.a4 ?_|refine NN.a5 ?_|refine NN.a6 ?_|refine NV.keep ?_|refine NN.keep ?_|refine NS.keep ?_|refine NIf.not_ ?_)<;>(conv=>whnf)) | (((with_reducible refine NH.mk ?s ?_);case s=>(and_intros <;> first | with_reducible rfl | omega | assumption | exact Nat.le_of_ble_eq_true rfl | (simp only [List.length_append, List.length_cons, List.length_nil]; omega) | rfl))<;>(conv=>whnf)) | (((with_reducible refine NIf.decY ?s ?_);case s=>first|with_reducible rfl|assumption|omega)<;>(conv=>whnf)) | (((with_reducible refine NIf.decN ?s ?_);case s=>first|with_reducible rfl|assumption|omega)<;>(conv=>whnf)) | (((with_reducible refine NIf.yes ?s ?_);case s=>first|rfl|assumption)<;>(conv=>whnf)) | (((with_reducible refine NIf.no ?s ?_);case s=>first|rfl|assumption)<;>(conv=>whnf)) | (((with_reducible refine NLd.of (by with_reducible assumption) ?_))<;>(conv=>whnf)) | ((refine NFlat_iff.2 ⟨⟨?s1,?s2⟩,?_⟩;(case s1=>decide +kernel);(case s2=>decide +kernel))<;>(conv=>whnf)) | ((with_reducible first|refine NIf.dec (fun _=>?_) (fun _=>?_)|refine NIf.both (fun _=>?_) (fun _=>?_))<;>(conv=>whnf)) | ((intro _;skip)<;>(conv=>whnf))))
        refine st_round (k + 1) ⟨hlt, ?_⟩ (by omega) ?_ (MemFits.eq rfl)
        · rw [List.take_succ_eq_append_getElem (by simpa using hlt), List.take_succ_eq_append_getElem (by simpa using hlt2), he]
          simp [hab]
        · repeat (first | exact FitsSl.nil | refine FitsSl.any ?_ | refine FitsSl.cons (Fit1.int (by first | rfl | omega)) ?_ | refine FitsSl.cons (Fit1.bool rfl) ?_ | refine FitsSl.cons (Fit1.str rfl) ?_ | refine FitsSl.cons (Fit1.same (by intro h; cases h) (by with_reducible rfl)) ?_ | refine FitsSl.cons Fit1.nil_sl ?_ | refine FitsSl.cons (Fit1.hs rfl) ?_ | refine FitsSl.cons (Fit1.hp rfl rfl) ?_ | refine FitsSl.cons (Fit1.sl rfl) ?_ | refine FitsSl.cons (Fit1.ptr rfl rfl) ?_ | refine FitsSl.cons Fit1.raw ?_)
      · have hne : a.map Lx.b ≠ b.map Lx.b := fun e => hab (by
          have := congrArg (fun l => l[k]?) e
          simpa [hlt, hlt2] using this)
        have hq : ¬ (a[k].k = b[k].k ∧ a[k].n = b[k].n ∧ a[k].s = b[k].s) := fun h => hab (Lx.b_ne.2 h)
        (repeat' (first | (with_reducible first|refine z0 ?_|refine z1 ?_|refine z2 ?_|refine z3 ?_|refine z4 ?_|refine z5 ?_|refine z6 ?_|refine z7 ?_|refine z8 ?_|refine z9 ?_|refine z10 ?_|refine z11 ?_|refine z12 ?_|refine z13 ?_|refine z14 ?_|refine z15 ?_|refine z16 ?_|refine z17 ?_|refine z18 ?_|refine z19 ?_|refine z20 ?_|refine z21 ?_|refine z22 ?_|refine z23 ?_|refine z24 ?_) | (((with_reducible first|refine z25 ?_|refine z26 ?_|refine z27 ?_|refine z28 ?_);intro K hK;(conv=>whnf))) | (with_reducible first|(refine hK _ _ ?_;clear hK K)|(refine hA ?_;clear hA hB A B)|(refine hB ?_;clear hA hB A B)|(refine hK _ ?_;clear hK K)) | ((with_reducible refine z29 ?_);intro A B hA hB;(conv=>whnf)) | (refine z30 (by decide) ?_) | ((first|refine z31 rfl ?_|refine z32 rfl ?_|refine z33 rfl ?_);intro K hK;(conv=>whnf)) | (refine z34 (by kernel_rfl) (by kernel_rfl) ?_) | (((with_reducible first|refine NV.quo ?s ?_|refine NV.rem ?s ?_|refine NV.i64 ?s ?_|refine NV.u32 ?s ?_|refine NV.u8 ?s ?_|refine NV.u64 ?s ?_);case s=>omega)<;>(conv=>whnf)) | ((with_reducible first|refine NV.divk ?_|refine NV.modk ?_|refine NN.lit ?_|refine NN.cast ?_|refine NN.a1 ?_|refine NN.a2 ?_|refine NN.a3 ?_|refine NN.a4 ?_|refine NN.a5 ?_|refine NN.a6 ?_|refine NV.keep ?_|refine NN.keep ?_|refine NS.keep ?_|refine NIf.not_ ?_)<;>(conv=>whnf)) | (((with_reducible refine NH.mk ?s ?_);case s=>(and_intros <;> first | with_reducible rfl | omega | assumption | exact Nat.le_of_ble_eq_true rfl | (simp only [List.length_append, List.length_cons, List.length_nil]; omega) | rfl))<;>(conv=>whnf)) | (((with_reducible refine NIf.decY ?s ?_);case s=>first|with_reducible rfl|assumption|omega)<;>(conv=>whnf)) | (((with_reducible refine NIf.decN ?s ?_);case s=>first|with_reducible rfl|assumption|omega)<;>(conv=>whnf)) | (((with_reducible refine NIf.yes ?s ?_);case s=>first|rfl|assumption)<;>(conv=>whnf)) | (((with_reducible refine NIf.no ?s ?_);case s=>first|rfl|assumption)<;>(conv=>whnf)) | (((with_reducible refine NLd.of (by with_reducible assumption) ?_))<;>(conv=>whnf)) | ((refine NFlat_iff.2 ⟨⟨?s1,?s2⟩,?_⟩;(case s1=>decide +kernel);(case s2=>decide +kernel))<;>(conv=>whnf)) | ((with_reducible first|refine NIf.dec (fun _=>?_) (fun _=>?_)|refine NIf.both (fun _=>?_) (fun _=>?_))<;>(conv=>whnf)) | ((intro _;skip)<;>(conv=>whnf))))
        all_goals first
          | exact ⟨false, rfl, rfl, by simp [hne]⟩
          | (exfalso; exact hq ⟨by omega, by omega, by assumption⟩)
          | skip
    · have e : a.map Lx.b = b.map Lx.b := by
        rwa [List.take_of_length_le (by simp; omega), List.take_of_length_le (by simp; omega)] at he
      (repeat' (first | (with_reducible first|refine z0 ?_|refine z1 ?_|refine z2 ?_|refine z3 ?_|refine z4 ?_|refine z5 ?_|refine z6 ?_|refine z7 ?_|refine z8 ?_|refine z9 ?_|refine z10 ?_|refine z11 ?_|refine z12 ?_|refine z13 ?_|refine z14 ?_|refine z15 ?_|refine z16 ?_|refine z17 ?_|refine z18 ?_|refine z19 ?_|refine z20 ?_|refine z21 ?_|refine z22 ?_|refine z23 ?_|refine z24 ?_) | (((with_reducible first|refine z25 ?_|refine z26 ?_|refine z27 ?_|refine z28 ?_);intro K hK;(conv=>whnf))) | (with_reducible first|(refine hK _ _ ?_;clear hK K)|(refine hA ?_;clear hA hB A B)|(refine hB ?_;clear hA hB A B)|(refine hK _ ?_;clear hK K)) | ((with_reducible refine z29 ?_);intro A B hA hB;(conv=>whnf)) | (refine z30 (by decide) ?_) | ((first|refine z31 rfl ?_|refine z32 rfl ?_|refine z33 rfl ?_);intro K hK;(conv=>whnf)) | (refine z34 (by kernel_rfl) (by kernel_rfl) ?_) | (((with_reducible first|refine NV.quo ?s ?_|refine NV.rem ?s ?_|refine NV.i64 ?s ?_|refine NV.u32 ?s ?_|refine NV.u8 ?s ?_|refine NV.u64 ?s ?_);case s=>omega)<;>(conv=>whnf)) | ((with_reducible first|refine NV.divk ?_|refine NV.modk ?_|refine NN.lit ?_|refine NN.cast ?_|refine NN.a1 ?_|refine NN.a2 ?_|refine NN.a3 ?_|refine NN.a4 ?_|refine NN.a5 ?_|refine NN.a6 ?_|refine NV.keep ?_|refine NN.keep ?_|refine NS.keep ?_|refine NIf.not_ ?_)<;>(conv=>whnf)) | (((with_reducible refine NH.mk ?s ?_);case s=>(and_intros <;> first | with_reducible rfl | omega | assumption | exact Nat.le_of_ble_eq_true rfl | (simp only [List.length_append, List.length_cons, List.length_nil]; omega) | rfl))<;>(conv=>whnf)) | (((with_reducible refine NIf.decY ?s ?_);case s=>first|with_reducible rfl|assumption|omega)<;>(conv=>whnf)) | (((with_reducible refine NIf.decN ?s ?_);case s=>first|with_reducible rfl|assumption|omega)<;>(conv=>whnf)) | (((with_reducible refine NIf.yes ?s ?_);case s=>first|rfl|assumption)<;>(conv=>whnf)) | (((with_reducible refine NIf.no ?s ?_);case s=>first|rfl|assumption)<;>(conv=>whnf)) | (((with_reducible refine NLd.of (by with_reducible assumption) ?_))<;>(conv=>whnf)) | ((refine NFlat_iff.2 ⟨⟨?s1,?s2⟩,?_⟩;(case s1=>decide +kernel);(case s2=>decide +kernel))<;>(conv=>whnf)) | ((with_reducible first|refine NIf.dec (fun _=>?_) (fun _=>?_)|refine NIf.both (fun _=>?_) (fun _=>?_))<;>(conv=>whnf)) | ((intro _;skip)<;>(conv=>whnf))))
      exact ⟨true, rfl, rfl, by simp [e]⟩
  · have hne : a.map Lx.b ≠ b.map Lx.b := fun e => hl (by simpa using congrArg List.length e)
    (repeat' (first | (with_reducible first|refine z0 ?_|refine z1 ?_|refine z2 ?_|refine z3 ?_|refine z4 ?_|refine z5 ?_|refine z6 ?_|refine z7 ?_|refine z8 ?_|refine z9 ?_|refine z10 ?_|refine z11 ?_|refine z12 ?_|refine z13 ?_|refine z14 ?_|refine z15 ?_|refine z16 ?_|refine z17 ?_|refine z18 ?_|refine z19 ?_|refine z20 ?_|refine z21 ?_|refine z22 ?_|refine z23 ?_|refine z24 ?_) | (((with_reducible first|refine z25 ?_|refine z26 ?_|refine z27 ?_|refine z28 ?_);intro K hK;(conv=>whnf))) | (with_reducible first|(refine hK _ _ ?_;clear hK K)|(refine hA ?_;clear hA hB A B)|(refine hB ?_;clear hA hB A B)|(refine hK _ ?_;clear hK K)) | ((with_reducible refine z29 ?_);intro A B hA hB;(conv=>whnf)) | (refine z30 (by decide) ?_) | ((first|refine z31 rfl ?_|refine z32 rfl ?_|refine z33 rfl ?_);intro K hK;(conv=>whnf)) | (refine z34 (by kernel_rfl) (by kernel_rfl) ?_) | (((with_reducible first|refine NV.quo ?s ?_|refine NV.rem ?s ?_|refine NV.i64 ?s ?_|refine NV.u32 ?s ?_|refine NV.u8 ?s ?_|refine NV.u64 ?s ?_);case s=>omega)<;>(conv=>whnf)) | ((with_reducible first|refine NV.divk ?_|refine NV.modk ?_|refine NN.lit ?_|refine NN.cast ?_|refine NN.a1 ?_|refine NN.a2 ?_|refine NN.a3 ?_|refine NN.a4 ?_|refine NN.a5 ?_|refine NN.a6 ?_|refine NV.keep ?_|refine NN.keep ?_|refine NS.keep ?_|refine NIf.not_ ?_)<;>(conv=>whnf)) | (((with_reducible refine NH.mk ?s ?_);case s=>(and_intros <;> first | with_reducible rfl | omega | assumption | exact Nat.le_of_ble_eq_true rfl | (simp only [List.length_append, List.length_cons, List.length_nil]; omega) | rfl))<;>(conv=>whnf)) | (((with_reducible refine NIf.decY ?s ?_);case s=>first|with_reducible rfl|assumption|omega)<;>(conv=>whnf)) | (((with_reducible refine NIf.decN ?s ?_);case s=>first|with_reducible rfl|assumption|omega)<;>(conv=>whnf)) | (((with_reducible refine NIf.yes ?s ?_);case s=>first|rfl|assumption)<;>(conv=>whnf)) | (((with_reducible refine NIf.no ?s ?_);case s=>first|rfl|assumption)<;>(conv=>whnf)) | (((with_reducible refine NLd.of (by with_reducible assumption) ?_))<;>(conv=>whnf)) | ((refine NFlat_iff.2 ⟨⟨?s1,?s2⟩,?_⟩;(case s1=>decide +kernel);(case s2=>decide +kernel))<;>(conv=>whnf)) | ((with_reducible first|refine NIf.dec (fun _=>?_) (fun _=>?_)|refine NIf.both (fun _=>?_) (fun _=>?_))<;>(conv=>whnf)) | ((intro _;skip)<;>(conv=>whnf))))
    exact ⟨false, rfl, rfl, by simp [hne]⟩
end Go.Proofs.YtokpkddeijfjjaaDoor
