/-
  The lexer: the text of tokens has the same tokens; each token stands where it says.
-/
import Derived.Test.YtokpkddeijfjjaaDoorLxB1
namespace Go.Proofs.YtokpkddeijfjjaaDoor
open Go.Sx
set_option maxRecDepth 20000
set_option linter.unusedSimpArgs false
set_option linter.unusedVariables false
set_option maxHeartbeats 4000000
set_option linter.unusedVariables false
namespace Lx
theorem word1 (b : B) (h : b.k = 1 ∨ b.k = 2 ∨ b.k = 3) (a : Int) : Lib.join (parts [⟨b.k, b.n, b.s, a⟩]) [32] = wordB b := by
  unfold parts wordB
  rcases h with h | h | h <;> simp [h, Lib.join_one]
theorem res_get (tx : List UInt8) (L : List (B × List UInt8)) (k : Nat) (hk : k < L.length) (h : k < (res tx L).length) : (res tx L)[k] = tokAt tx L[k] := by
  refine (List.getElem_of_getElem? (l := res tx L) (i := k) ?_).2
  unfold res
  rw [List.getElem?_append_left (by simpa using hk)]
  simp [hk]
theorem res_last (tx : List UInt8) (L : List (B × List UInt8)) (h : L.length < (res tx L).length) : (res tx L)[L.length] = ⟨4, 0, [], tx.length⟩ := by
  refine (List.getElem_of_getElem? (l := res tx L) (i := L.length) ?_).2
  unfold res
  rw [List.getElem?_append_right (by simp)]
  simp
/-- One round of the law: where a token stands, and what it says. -/
theorem round (tx : List UInt8) (L : List (B × List UInt8)) (k at_ : Nat) (hk : k < (res tx L).length) (hat : at_ ≤ tx.length) (hp : Pl (tx.drop at_) (L.drop k)) :
    ∃ (a : Nat) (wd : List UInt8), (res tx L)[k].at_ = (a : Int) ∧ at_ ≤ a ∧ a + wd.length ≤ tx.length ∧ (tx.drop a).take wd.length = wd ∧ Lib.join (parts [(res tx L)[k]]) [32] = wd ∧ Pl (tx.drop (a + wd.length)) (L.drop (k + 1)) := by
  have hlen : (res tx L).length = L.length + 1 := by simp [res]
  by_cases hlt : k < L.length
  · have hd : L.drop k = L[k] :: L.drop (k + 1) := List.drop_eq_getElem_cons hlt
    rw [hd] at hp
    have hr := res_get tx L k hlt hk
    rcases hbu : L[k] with ⟨b, u⟩
    rw [hbu] at hp hr
    obtain ⟨⟨p, hpu⟩, hkd, h1, q, hq, hpl⟩ := hp
    have hl := congrArg List.length hpu
    rw [List.length_drop, List.length_append] at hl
    have hqu := congrArg List.length hq
    rw [List.length_append] at hqu
    have hdu : tx.drop (at_ + p.length) = u := by
      rw [← List.drop_drop, hpu, List.drop_left]
    refine ⟨at_ + p.length, wordB b, ?_, by omega, by omega, ?_, ?_, ?_⟩
    · rw [hr]
      show (tx.length : Int) - u.length = _
      omega
    · rw [hdu, hq, List.take_left]
    · rw [hr]
      exact word1 b hkd _
    · rw [← List.drop_drop, hdu]
      have : u.drop (wordB b).length = q := by rw [hq, List.drop_left]
      rw [this]; exact hpl
  · have hk2 : k = L.length := by omega
    subst hk2
    have hr := res_last tx L hk
    refine ⟨tx.length, [], by rw [hr], hat, by simp, by simp, by rw [hr]; rfl, ?_⟩
    have hz : L.drop (L.length + 1) = [] := List.drop_eq_nil_of_le (by omega)
    rw [hz]
    exact trivial
theorem nextB_n {t : List UInt8} {b : B} {n : Nat} (h : nextB t = some (b, n)) : 0 ≤ b.n ∧ b.n ≤ 999 := by
  cases t with
  | nil => cases h
  | cons c r =>
    rw [nextB_eq] at h
    split at h
    · injection h with h; injection h with h1 h2
      subst h1; exact (show 0 ≤ (0 : Int) ∧ (0 : Int) ≤ 999 from ⟨by decide, by decide⟩)
    split at h
    · split at h
      · cases h
      · rename_i hd hk
        injection h with h; injection h with h1 h2
        subst h1
        have := num_lt ((c :: r).takeWhile isD) (by omega) (fun x hx => tw_all hx)
        exact ⟨Int.natCast_nonneg _, by show ((num ((c :: r).takeWhile isD) : Nat) : Int) ≤ 999; omega⟩
    split at h
    · injection h with h; injection h with h1 h2
      subst h1; exact (show 0 ≤ (0 : Int) ∧ (0 : Int) ≤ 999 from ⟨by decide, by decide⟩)
    split at h
    · injection h with h; injection h with h1 h2
      subst h1; exact (show 0 ≤ (0 : Int) ∧ (0 : Int) ≤ 999 from ⟨by decide, by decide⟩)
    · cases h
theorem toks_n : ∀ (n : Nat) (t : List UInt8), t.length ≤ n → ∀ (L : List (B × List UInt8)), toks t = some L → ∀ x ∈ L, 0 ≤ x.1.n ∧ x.1.n ≤ 999
  | 0, t, h, L, hL, x, hx => by
    have : t = [] := List.eq_nil_of_length_eq_zero (by omega)
    subst this
    rw [toks_nil (skip_nil rfl)] at hL
    injection hL with hL
    subst hL
    cases hx
  | n + 1, t, h, L, hL, x, hx => by
    by_cases hs : skip t = []
    · rw [toks_nil hs] at hL
      injection hL with hL
      subst hL
      cases hx
    cases h2 : nextB (skip t) with
    | none => rw [toks_none hs h2] at hL; cases hL
    | some q =>
      obtain ⟨b, m⟩ := q
      rw [toks_cons hs h2] at hL
      obtain ⟨L2, hL2, rfl⟩ := Option.map_eq_some_iff.1 hL
      have hlen := skip_len t.length t (Nat.le_refl _)
      have hpos := nextB_pos h2
      rcases List.mem_cons.1 hx with rfl | hx
      · exact nextB_n h2
      · exact toks_n n ((skip t).drop m) (by rw [List.length_drop]; omega) L2 hL2 x hx
end Lx
theorem back28_c (F : Heap) (hF : TabF F) (s : List UInt8) (hs : s.length ≤ 9223372036854775807) : NCall Tryd.prog 5 [.str s] [hpB F] fun r _ => r = .bool true := by
  have hnil := SlOk.nil
  by_cases hb : 1000 < s.length
  · have haw := awake28_c F
    refine ncall_of Tryd.func5 rfl (by decide) ?_
    (repeat' (first | (with_reducible first|refine z0 ?_|refine z1 ?_|refine z2 ?_|refine z3 ?_|refine z4 ?_|refine z5 ?_|refine z6 ?_|refine z7 ?_|refine z8 ?_|refine z9 ?_|refine z10 ?_|refine z11 ?_|refine z12 ?_|refine z13 ?_|refine z14 ?_|refine z15 ?_|refine z16 ?_|refine z17 ?_|refine z18 ?_|refine z19 ?_|refine z20 ?_|refine z21 ?_|refine z22 ?_|refine z23 ?_|refine z24 ?_) | (((with_reducible first|refine z25 ?_|refine z26 ?_|refine z27 ?_|refine z28 ?_);intro K hK;(conv=>whnf))) | (with_reducible first|(refine hK _ _ ?_;clear hK K)|(refine hA ?_;clear hA hB A B)|(refine hB ?_;clear hA hB A B)|(refine hK _ ?_;clear hK K)) | ((with_reducible refine z29 ?_);intro A B hA hB;(conv=>whnf)) | (refine z30 (by decide) ?_) | ((first|refine z31 rfl ?_|refine z32 rfl ?_|refine z33 rfl ?_);intro K hK;(conv=>whnf)) | (refine z34 (by kernel_rfl) (by kernel_rfl) ?_) | ((with_reducible refine NCall.isF 21 ?_); (refine NCall.subw [0] _ _ (haw) rfl (by decide) rfl ?_; rintro _ _ ⟨F', hF, rfl, rfl⟩; refine ⟨Nat.le_of_ble_eq_true rfl, _, rfl, ?_⟩; (conv=>whnf))) | (((with_reducible first|refine NV.quo ?s ?_|refine NV.rem ?s ?_|refine NV.i64 ?s ?_|refine NV.u32 ?s ?_|refine NV.u8 ?s ?_|refine NV.u64 ?s ?_);case s=>omega)<;>(conv=>whnf)) | ((with_reducible first|refine NV.divk ?_|refine NV.modk ?_|refine NN.lit ?_|refine NN.cast ?_|refine NN.a1 ?_|refine NN.a2 ?_|refine NN.a3 ?_|refine NN.a4 ?_|refine NN.a5 ?_|refine NN.a6 ?_|refine NV.keep ?_|refine NN.keep ?_|refine NS.keep ?_|refine NIf.not_ ?_)<;>(conv=>whnf)) | (((with_reducible refine NH.mk ?s ?_);case s=>(and_intros <;> first | with_reducible rfl | omega | assumption | exact Nat.le_of_ble_eq_true rfl | (simp only [List.length_append, List.length_cons, List.length_nil]; omega) | rfl))<;>(conv=>whnf)) | (((with_reducible refine NIf.decY ?s ?_);case s=>first|with_reducible rfl|assumption|omega)<;>(conv=>whnf)) | (((with_reducible refine NIf.decN ?s ?_);case s=>first|with_reducible rfl|assumption|omega)<;>(conv=>whnf)) | (((with_reducible refine NIf.yes ?s ?_);case s=>first|rfl|assumption)<;>(conv=>whnf)) | (((with_reducible refine NIf.no ?s ?_);case s=>first|rfl|assumption)<;>(conv=>whnf)) | (((with_reducible refine NLd.of (by with_reducible assumption) ?_))<;>(conv=>whnf)) | ((refine NFlat_iff.2 ⟨⟨?s1,?s2⟩,?_⟩;(case s1=>decide +kernel);(case s2=>decide +kernel))<;>(conv=>whnf)) | ((with_reducible first|refine NIf.dec (fun _=>?_) (fun _=>?_)|refine NIf.both (fun _=>?_) (fun _=>?_))<;>(conv=>whnf)) | ((intro _;skip)<;>(conv=>whnf))))
    all_goals first | rfl | (exfalso; omega)
  by_cases hg : ¬ Lx.good s
  · have hl := lex_bad F s (by omega) hg
    have haw := awake28_c F
    refine ncall_of Tryd.func5 rfl (by decide) ?_
    (repeat' (first | (with_reducible first|refine z0 ?_|refine z1 ?_|refine z2 ?_|refine z3 ?_|refine z4 ?_|refine z5 ?_|refine z6 ?_|refine z7 ?_|refine z8 ?_|refine z9 ?_|refine z10 ?_|refine z11 ?_|refine z12 ?_|refine z13 ?_|refine z14 ?_|refine z15 ?_|refine z16 ?_|refine z17 ?_|refine z18 ?_|refine z19 ?_|refine z20 ?_|refine z21 ?_|refine z22 ?_|refine z23 ?_|refine z24 ?_) | (((with_reducible first|refine z25 ?_|refine z26 ?_|refine z27 ?_|refine z28 ?_);intro K hK;(conv=>whnf))) | (with_reducible first|(refine hK _ _ ?_;clear hK K)|(refine hA ?_;clear hA hB A B)|(refine hB ?_;clear hA hB A B)|(refine hK _ ?_;clear hK K)) | ((with_reducible refine z29 ?_);intro A B hA hB;(conv=>whnf)) | (refine z30 (by decide) ?_) | ((first|refine z31 rfl ?_|refine z32 rfl ?_|refine z33 rfl ?_);intro K hK;(conv=>whnf)) | (refine z34 (by kernel_rfl) (by kernel_rfl) ?_) | ((with_reducible refine NCall.isF 22 ?_); (refine NCall.subw [0] _ _ (hl) rfl (by decide) rfl ?_; rintro _ _ ⟨at_, e, he, rfl, rfl⟩; refine ⟨Nat.le_of_ble_eq_true rfl, _, rfl, ?_⟩; (conv=>whnf))) | ((with_reducible refine NCall.isF 21 ?_); (refine NCall.subw [0] _ _ (haw) rfl (by decide) rfl ?_; rintro _ _ ⟨F', hF, rfl, rfl⟩; refine ⟨Nat.le_of_ble_eq_true rfl, _, rfl, ?_⟩; (conv=>whnf))) | (((with_reducible first|refine NV.quo ?s ?_|refine NV.rem ?s ?_|refine NV.i64 ?s ?_|refine NV.u32 ?s ?_|refine NV.u8 ?s ?_|refine NV.u64 ?s ?_);case s=>omega)<;>(conv=>whnf)) | ((with_reducible first|refine NV.divk ?_|refine NV.modk ?_|refine NN.lit ?_|refine NN.cast ?_|refine NN.a1 ?_|refine NN.a2 ?_|refine NN.a3 ?_|refine NN.a4 ?_|refine NN.a5 ?_|refine NN.a6 ?_|refine NV.keep ?_|refine NN.keep ?_|refine NS.keep ?_|refine NIf.not_ ?_)<;>(conv=>whnf)) | (((with_reducible refine NH.mk ?s ?_);case s=>(and_intros <;> first | with_reducible rfl | omega | assumption | exact Nat.le_of_ble_eq_true rfl | (simp only [List.length_append, List.length_cons, List.length_nil]; omega) | rfl))<;>(conv=>whnf)) | (((with_reducible refine NIf.decY ?s ?_);case s=>first|with_reducible rfl|assumption|omega)<;>(conv=>whnf)) | (((with_reducible refine NIf.decN ?s ?_);case s=>first|with_reducible rfl|assumption|omega)<;>(conv=>whnf)) | (((with_reducible refine NIf.yes ?s ?_);case s=>first|rfl|assumption)<;>(conv=>whnf)) | (((with_reducible refine NIf.no ?s ?_);case s=>first|rfl|assumption)<;>(conv=>whnf)) | (((with_reducible refine NLd.of (by with_reducible assumption) ?_))<;>(conv=>whnf)) | ((refine NFlat_iff.2 ⟨⟨?s1,?s2⟩,?_⟩;(case s1=>decide +kernel);(case s2=>decide +kernel))<;>(conv=>whnf)) | ((with_reducible first|refine NIf.dec (fun _=>?_) (fun _=>?_)|refine NIf.both (fun _=>?_) (fun _=>?_))<;>(conv=>whnf)) | ((intro _;skip)<;>(conv=>whnf))))
    all_goals first | rfl | (exfalso; omega)
  obtain ⟨L, hL, hLl⟩ := Classical.not_not.1 hg
  have hlen : (Lx.res s L).length = L.length + 1 := by simp [Lx.res]
  obtain ⟨hpl, L2, hL2, hmap⟩ := Lx.again s.length s (Nat.le_refl _) L hL
  have hkinds := Lx.Pl.kinds L s hpl
  have hjl := Lx.joinW_len L s hpl
  have hll : L2.length = L.length := by simpa using congrArg List.length hmap
  have hparts : Lib.join (Lx.parts (Lx.res s L)) [32] = Lx.joinW (L.map (·.1)) := by rw [Lx.parts_res s L hkinds]; rfl
  have hbb : (Lx.res s L).map Lx.b = (Lx.res (Lx.joinW (L.map (·.1))) L2).map Lx.b := by rw [Lx.res_b, Lx.res_b, hmap]
  have hni : ∀ x ∈ Lx.res s L, Lx.i64 x.n := fun x hx => by
    rcases List.mem_append.1 hx with hx | hx
    · obtain ⟨y, hy, rfl⟩ := List.mem_map.1 hx
      have := Lx.toks_n s.length s (Nat.le_refl _) L hL y hy
      exact ⟨by show _ ≤ y.1.n; omega, by show y.1.n ≤ _; omega⟩
    · rw [List.mem_singleton.1 hx]; exact (show Lx.i64 0 from ⟨by decide, by decide⟩)
  have hround := Lx.round s L
  have hlast := Lx.res_last s L
  have hl := lex_good F s (by omega) L hL hLl
  generalize Lx.joinW (L.map (·.1)) = J at *
  have hres2 : (Lx.res J L2).length = L2.length + 1 := by simp [Lx.res]
  generalize Lx.res s L = R at *
  have hl2 : NCall Tryd.prog 22 [.str s] [hpB F] fun r m => ∃ F1 v, F.le F1 ∧ m = [hpB F1] ∧ r = .tup [.hs v R.length, .int .i64 0, .int .i64 0] ∧ SlOk v R.length ∧
      NCall Tryd.prog 23 [.hs v R.length] [hpB F1] (fun r m => r = .str J ∧ m = [hpB F1]) ∧
      NCall Tryd.prog 22 [.str J] [hpB F1] (fun r m => ∃ F2 v2 at_, m = [hpB F2] ∧ r = .tup [.hs v2 (Lx.res J L2).length, .int .i64 at_, .int .i64 0] ∧ TabF F2 ∧ RowF F2 4 (fun x vs => vs = Lx.tokV x) v R ∧
        NCall Tryd.prog 24 [.hs v R.length, .hs v2 (Lx.res J L2).length] [hpB F2] (fun r m => r = .bool true ∧ m = [hpB F2]) ∧ NCall Tryd.prog 21 [] [hpB F2] fun r m => ∃ F3, F2.le F3 ∧ m = [hpB F3] ∧ r = .bool true) :=
    hl.mono fun r m ⟨F1, v, h1, h2, h3, h4⟩ => ⟨F1, v, h1, h2, h3, h4.ok, (ltext_c F1 (hF.mono h1) v R h4 (by omega) hni (by rw [hparts]; omega)).mono (fun r m h => ⟨by rw [h.1, hparts], h.2⟩),
      (lex_good F1 J (by omega) L2 hL2 (by omega)).mono fun r m ⟨F2, v2, h5, h6, h7, h8⟩ => ⟨F2, v2, _, h6, h7, (hF.mono h1).mono h5, h4.mono h5 (fun _ _ h => h),
        (moved_c F2 v v2 _ _ (h4.mono h5 fun _ _ h => h) h8 (by omega) (by omega)).mono (fun r m ⟨t, h9, h10, h11⟩ => ⟨by rw [h9, h11.2 hbb], h10⟩), awake28_c F2⟩⟩
  refine ncall_of Tryd.func5 rfl (by decide) ?_
  (repeat' (first | (with_reducible first|refine z0 ?_|refine z1 ?_|refine z2 ?_|refine z3 ?_|refine z4 ?_|refine z5 ?_|refine z6 ?_|refine z7 ?_|refine z8 ?_|refine z9 ?_|refine z10 ?_|refine z11 ?_|refine z12 ?_|refine z13 ?_|refine z14 ?_|refine z15 ?_|refine z16 ?_|refine z17 ?_|refine z18 ?_|refine z19 ?_|refine z20 ?_|refine z21 ?_|refine z22 ?_|refine z23 ?_|refine z24 ?_) | (((with_reducible first|refine z25 ?_|refine z26 ?_|refine z27 ?_|refine z28 ?_);intro K hK;(conv=>whnf))) | (with_reducible first|(refine hK _ _ ?_;clear hK K)|(refine hA ?_;clear hA hB A B)|(refine hB ?_;clear hA hB A B)|(refine hK _ ?_;clear hK K)) | ((with_reducible refine z29 ?_);intro A B hA hB;(conv=>whnf)) | (refine z30 (by decide) ?_) | ((first|refine z31 rfl ?_|refine z32 rfl ?_|refine z33 rfl ?_);intro K hK;(conv=>whnf)) | (refine z34 (by kernel_rfl) (by kernel_rfl) ?_) | ((with_reducible refine NCall.isF 22 ?_); (refine NCall.subw [0] _ _ ((by assumption)) rfl (by decide) rfl ?_; rintro _ _ ⟨F2, v2, at2, rfl, rfl, hF2, hrow, hmv, haw⟩; refine ⟨Nat.le_of_ble_eq_true rfl, _, rfl, ?_⟩; (conv=>whnf))) | ((with_reducible refine NCall.isF 22 ?_); (refine NCall.subw [0] _ _ (hl2) rfl (by decide) rfl ?_; rintro _ _ ⟨F1, v, hle1, rfl, rfl, hok, htx, hlx⟩; refine ⟨Nat.le_of_ble_eq_true rfl, _, rfl, ?_⟩; (conv=>whnf))) | ((with_reducible refine NCall.isF 23 ?_); (refine NCall.subw [0] _ _ (htx) rfl (by decide) rfl ?_; rintro _ _ ⟨rfl, rfl⟩; refine ⟨Nat.le_of_ble_eq_true rfl, _, rfl, ?_⟩; (conv=>whnf))) | ((with_reducible refine NCall.isF 24 ?_); (refine NCall.subw [0] _ _ (hmv) rfl (by decide) rfl ?_; rintro _ _ ⟨rfl, rfl⟩; refine ⟨Nat.le_of_ble_eq_true rfl, _, rfl, ?_⟩; (conv=>whnf))) | (((with_reducible first|refine NV.quo ?s ?_|refine NV.rem ?s ?_|refine NV.i64 ?s ?_|refine NV.u32 ?s ?_|refine NV.u8 ?s ?_|refine NV.u64 ?s ?_);case s=>omega)<;>(conv=>whnf)) | ((with_reducible first|refine NV.divk ?_|refine NV.modk ?_|refine NN.lit ?_|refine NN.cast ?_|refine NN.a1 ?_|refine NN.a2 ?_|refine NN.a3 ?_|refine NN.a4 ?_|refine NN.a5 ?_|refine NN.a6 ?_|refine NV.keep ?_|refine NN.keep ?_|refine NS.keep ?_|refine NIf.not_ ?_)<;>(conv=>whnf)) | (((with_reducible refine NH.mk ?s ?_);case s=>(and_intros <;> first | with_reducible rfl | omega | assumption | exact Nat.le_of_ble_eq_true rfl | (simp only [List.length_append, List.length_cons, List.length_nil]; omega) | rfl))<;>(conv=>whnf)) | (((with_reducible refine NIf.decY ?s ?_);case s=>first|with_reducible rfl|assumption|omega)<;>(conv=>whnf)) | (((with_reducible refine NIf.decN ?s ?_);case s=>first|with_reducible rfl|assumption|omega)<;>(conv=>whnf)) | (((with_reducible refine NIf.yes ?s ?_);case s=>first|rfl|assumption)<;>(conv=>whnf)) | (((with_reducible refine NIf.no ?s ?_);case s=>first|rfl|assumption)<;>(conv=>whnf)) | (((with_reducible refine NLd.of (by with_reducible assumption) ?_))<;>(conv=>whnf)) | ((refine NFlat_iff.2 ⟨⟨?s1,?s2⟩,?_⟩;(case s1=>decide +kernel);(case s2=>decide +kernel))<;>(conv=>whnf)) | ((with_reducible first|refine NIf.dec (fun _=>?_) (fun _=>?_)|refine NIf.both (fun _=>?_) (fun _=>?_))<;>(conv=>whnf)) | ((intro _;skip)<;>(conv=>whnf))))
  refine st_auto (α := Nat × Nat) (fun x => x.1 ≤ R.length ∧ (x.1 < R.length → x.2 ≤ s.length ∧ Lx.Pl (s.drop x.2) (L.drop x.1))) (fun x => [.keep, .keep, .drop, .keep, .keep, .keep, .keep, .keep, .keep, .set (.int .i64 x.2), .set (.int .i64 x.1), .drop, .drop, .keep, .keep, .keep, .keep, .keep, .keep, .keep, .keep, .keep, .keep, .keep, .keep, .keep, .keep, .keep, .keep, .keep, .keep, .keep, .keep, .keep, .keep, .keep, .keep, .keep, .keep, .keep, .keep, .keep, .keep, .keep, .keep, .keep, .keep, .keep, .keep, .keep, .keep, .drop, .drop, .drop, .drop, .drop, .drop, .drop, .drop, .drop, .drop, .drop, .drop, .drop, .drop, .drop, .drop, .drop, .drop, .drop, .drop, .drop, .drop, .drop, .drop, .drop, .drop, .drop, .drop, .drop, .drop, .drop, .drop, .drop, .drop, .drop, .drop, .drop, .drop, .drop, .drop, .drop, .drop, .drop, .drop, .drop, .drop, .drop, .drop, .drop, .drop, .keep, .keep, .keep, .keep, .keep, .keep, .keep, .keep, .keep, .keep, .keep, .keep, .keep, .keep, .keep, .keep, .keep, .keep, .keep, .keep, .keep, .keep, .keep]) (fun _ => []) (fun x => R.length - x.1) (0, 0) ⟨Nat.zero_le _, fun _ => ⟨Nat.zero_le _, by simpa using hpl⟩⟩ ?_ (MemFits.eq rfl) ?_
  · repeat (first | exact FitsSl.nil | refine FitsSl.any ?_ | refine FitsSl.cons (Fit1.int (by first | rfl | omega)) ?_ | refine FitsSl.cons (Fit1.bool rfl) ?_ | refine FitsSl.cons (Fit1.str rfl) ?_ | refine FitsSl.cons (Fit1.same (by intro h; cases h) (by with_reducible rfl)) ?_ | refine FitsSl.cons Fit1.nil_sl ?_ | refine FitsSl.cons (Fit1.hs rfl) ?_ | refine FitsSl.cons (Fit1.hp rfl rfl) ?_ | refine FitsSl.cons (Fit1.sl rfl) ?_ | refine FitsSl.cons (Fit1.ptr rfl rfl) ?_ | refine FitsSl.cons Fit1.raw ?_)
  (intro ⟨k, a0⟩ ⟨hk, hi⟩; intro K hK; (conv=>whnf); refine hK _ _ ?_; clear hK K)
  dsimp only at hk hi ⊢
  by_cases hlt : k < R.length
  · obtain ⟨ha0, hp0⟩ := hi hlt
    obtain ⟨a, wd, e1, h1, h2, h3, h4, h5⟩ := hround k a0 hlt ha0 hp0
    obtain ⟨g0, g1, g2, g3⟩ := hrow.get4 hlt
    have hnk := hni R[k] (List.getElem_mem hlt)
    generalize R[k] = x at *
    obtain ⟨xk, xn, xs, xa⟩ := x
    dsimp only at *
    subst e1
    have hown : ∀ (m : List Blk) (j : Nat) (u : Value), MemFits m [hpB F2, ⟨addrOf u, Lx.tokC ⟨xk, xn, xs, a⟩, .row u 53 4 1⟩] → NCall Tryd.prog 23 [.sl j u 1] m (fun r m' => r = .str wd ∧ m' = m) :=
      fun m j u hm => (ltext_own F2 hF2 u _ m j hm hnk (by rw [h4]; omega)).mono fun r m' h => ⟨by rw [h.1, h4], h.2⟩
    have hcut : List.take (a + wd.length - a) (List.drop a s) = wd := by rw [Nat.add_sub_cancel_left]; exact h3
    (repeat' (first | (with_reducible first|refine z0 ?_|refine z1 ?_|refine z2 ?_|refine z3 ?_|refine z4 ?_|refine z5 ?_|refine z6 ?_|refine z7 ?_|refine z8 ?_|refine z9 ?_|refine z10 ?_|refine z11 ?_|refine z12 ?_|refine z13 ?_|refine z14 ?_|refine z15 ?_|refine z16 ?_|refine z17 ?_|refine z18 ?_|refine z19 ?_|refine z20 ?_|refine z21 ?_|refine z22 ?_|refine z23 ?_|refine z24 ?_) | (((with_reducible first|refine z25 ?_|refine z26 ?_|refine z27 ?_|refine z28 ?_);intro K hK;(conv=>whnf))) | (with_reducible first|(refine hK _ _ ?_;clear hK K)|(refine hA ?_;clear hA hB A B)|(refine hB ?_;clear hA hB A B)|(refine hK _ ?_;clear hK K)) | ((with_reducible refine z29 ?_);intro A B hA hB;(conv=>whnf)) | (refine z30 (by decide) ?_) | ((first|refine z31 rfl ?_|refine z32 rfl ?_|refine z33 rfl ?_);intro K hK;(conv=>whnf)) | (refine z34 (by kernel_rfl) (by kernel_rfl) ?_) | (((with_reducible refine NN.eq (n := a + wd.length) ?side ?_); case side => omega) <;> (conv=>whnf)) | ((with_reducible refine NS.eq (hcut) ?_) <;> (conv=>whnf)) | ((with_reducible refine NCall.isF 23 ?_); (refine (hown _ _ _ (MemFits.pick [0, 2] (by decide) rfl)).mono ?_; rintro _ _ ⟨rfl, rfl⟩; (conv=>whnf))) | (((with_reducible first|refine NV.quo ?s ?_|refine NV.rem ?s ?_|refine NV.i64 ?s ?_|refine NV.u32 ?s ?_|refine NV.u8 ?s ?_|refine NV.u64 ?s ?_);case s=>omega)<;>(conv=>whnf)) | ((with_reducible first|refine NV.divk ?_|refine NV.modk ?_|refine NN.lit ?_|refine NN.cast ?_|refine NN.a1 ?_|refine NN.a2 ?_|refine NN.a3 ?_|refine NN.a4 ?_|refine NN.a5 ?_|refine NN.a6 ?_|refine NV.keep ?_|refine NN.keep ?_|refine NS.keep ?_|refine NIf.not_ ?_)<;>(conv=>whnf)) | (((with_reducible refine NH.mk ?s ?_);case s=>(and_intros <;> first | with_reducible rfl | omega | assumption | exact Nat.le_of_ble_eq_true rfl | (simp only [List.length_append, List.length_cons, List.length_nil]; omega) | rfl))<;>(conv=>whnf)) | (((with_reducible refine NIf.decY ?s ?_);case s=>first|with_reducible rfl|assumption|omega)<;>(conv=>whnf)) | (((with_reducible refine NIf.decN ?s ?_);case s=>first|with_reducible rfl|assumption|omega)<;>(conv=>whnf)) | (((with_reducible refine NIf.yes ?s ?_);case s=>first|rfl|assumption)<;>(conv=>whnf)) | (((with_reducible refine NIf.no ?s ?_);case s=>first|rfl|assumption)<;>(conv=>whnf)) | (((with_reducible refine NLd.of (by with_reducible assumption) ?_))<;>(conv=>whnf)) | ((refine NFlat_iff.2 ⟨⟨?s1,?s2⟩,?_⟩;(case s1=>decide +kernel);(case s2=>decide +kernel))<;>(conv=>whnf)) | ((with_reducible first|refine NIf.dec (fun _=>?_) (fun _=>?_)|refine NIf.both (fun _=>?_) (fun _=>?_))<;>(conv=>whnf)) | ((intro _;skip)<;>(conv=>whnf))))
    refine st_round (k + 1, a + wd.length) ⟨hlt, fun _ => ⟨by dsimp only; omega, h5⟩⟩ (by dsimp only; omega) ?_ (MemFits.pre 1 rfl)
    repeat (first | exact FitsSl.nil | refine FitsSl.any ?_ | refine FitsSl.cons (Fit1.int (by first | rfl | omega)) ?_ | refine FitsSl.cons (Fit1.bool rfl) ?_ | refine FitsSl.cons (Fit1.str rfl) ?_ | refine FitsSl.cons (Fit1.same (by intro h; cases h) (by with_reducible rfl)) ?_ | refine FitsSl.cons Fit1.nil_sl ?_ | refine FitsSl.cons (Fit1.hs rfl) ?_ | refine FitsSl.cons (Fit1.hp rfl rfl) ?_ | refine FitsSl.cons (Fit1.sl rfl) ?_ | refine FitsSl.cons (Fit1.ptr rfl rfl) ?_ | refine FitsSl.cons Fit1.raw ?_)
  · have hke : k = R.length := by omega
    have hl1 : R.length - 1 < R.length := by omega
    obtain ⟨g0, g1, g2, g3⟩ := hrow.get4 hl1
    have hrl : R[R.length - 1] = ⟨4, 0, [], s.length⟩ := by
      have : R.length - 1 = L.length := by omega
      simp only [this]
      exact hlast _
    rw [hrl] at g0 g3
    (repeat' (first | (with_reducible first|refine z0 ?_|refine z1 ?_|refine z2 ?_|refine z3 ?_|refine z4 ?_|refine z5 ?_|refine z6 ?_|refine z7 ?_|refine z8 ?_|refine z9 ?_|refine z10 ?_|refine z11 ?_|refine z12 ?_|refine z13 ?_|refine z14 ?_|refine z15 ?_|refine z16 ?_|refine z17 ?_|refine z18 ?_|refine z19 ?_|refine z20 ?_|refine z21 ?_|refine z22 ?_|refine z23 ?_|refine z24 ?_) | (((with_reducible first|refine z25 ?_|refine z26 ?_|refine z27 ?_|refine z28 ?_);intro K hK;(conv=>whnf))) | (with_reducible first|(refine hK _ _ ?_;clear hK K)|(refine hA ?_;clear hA hB A B)|(refine hB ?_;clear hA hB A B)|(refine hK _ ?_;clear hK K)) | ((with_reducible refine z29 ?_);intro A B hA hB;(conv=>whnf)) | (refine z30 (by decide) ?_) | ((first|refine z31 rfl ?_|refine z32 rfl ?_|refine z33 rfl ?_);intro K hK;(conv=>whnf)) | (refine z34 (by kernel_rfl) (by kernel_rfl) ?_) | (((with_reducible refine NN.eq (n := R.length - 1) ?side ?_); case side => omega) <;> (conv=>whnf)) | ((with_reducible refine NCall.isF 21 ?_); (refine NCall.subw [0] _ _ (haw) rfl (by decide) rfl ?_; rintro _ _ ⟨F3, hle3, rfl, rfl⟩; refine ⟨Nat.le_of_ble_eq_true rfl, _, rfl, ?_⟩; (conv=>whnf))) | (((with_reducible first|refine NV.quo ?s ?_|refine NV.rem ?s ?_|refine NV.i64 ?s ?_|refine NV.u32 ?s ?_|refine NV.u8 ?s ?_|refine NV.u64 ?s ?_);case s=>omega)<;>(conv=>whnf)) | ((with_reducible first|refine NV.divk ?_|refine NV.modk ?_|refine NN.lit ?_|refine NN.cast ?_|refine NN.a1 ?_|refine NN.a2 ?_|refine NN.a3 ?_|refine NN.a4 ?_|refine NN.a5 ?_|refine NN.a6 ?_|refine NV.keep ?_|refine NN.keep ?_|refine NS.keep ?_|refine NIf.not_ ?_)<;>(conv=>whnf)) | (((with_reducible refine NH.mk ?s ?_);case s=>(and_intros <;> first | with_reducible rfl | omega | assumption | exact Nat.le_of_ble_eq_true rfl | (simp only [List.length_append, List.length_cons, List.length_nil]; omega) | rfl))<;>(conv=>whnf)) | (((with_reducible refine NIf.decY ?s ?_);case s=>first|with_reducible rfl|assumption|omega)<;>(conv=>whnf)) | (((with_reducible refine NIf.decN ?s ?_);case s=>first|with_reducible rfl|assumption|omega)<;>(conv=>whnf)) | (((with_reducible refine NIf.yes ?s ?_);case s=>first|rfl|assumption)<;>(conv=>whnf)) | (((with_reducible refine NIf.no ?s ?_);case s=>first|rfl|assumption)<;>(conv=>whnf)) | (((with_reducible refine NLd.of (by with_reducible assumption) ?_))<;>(conv=>whnf)) | ((refine NFlat_iff.2 ⟨⟨?s1,?s2⟩,?_⟩;(case s1=>decide +kernel);(case s2=>decide +kernel))<;>(conv=>whnf)) | ((with_reducible first|refine NIf.dec (fun _=>?_) (fun _=>?_)|refine NIf.both (fun _=>?_) (fun _=>?_))<;>(conv=>whnf)) | ((intro _;skip)<;>(conv=>whnf))))
    all_goals rfl
end Go.Proofs.YtokpkddeijfjjaaDoor
