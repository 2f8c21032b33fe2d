/-
  Journals, parsed by the program: a text.
-/
import Derived.Test.YtdalneokgejmjaaDoorJr16p
import Derived.Test.YtdalneokgejmjaaDoorJr15
import Derived.Test.YtdalneokgejmjaaDoorLay
namespace Go.Proofs.YtdalneokgejmjaaDoor
open Go.Sx
set_option maxRecDepth 20000
set_option linter.unusedSimpArgs false
set_option linter.unusedVariables false
set_option maxHeartbeats 4000000
set_option linter.unusedVariables false
theorem index36_c (s : List UInt8) : NCall Tryd.prog 13 [.str s, .int .u8 10] [] fun r _ => r = .int .i64 ((Jr.cut s : Int) - 1) := by
  refine (ncall_kept (K := fun r => r = .int .i64 ((Jr.cut s : Int) - 1)) (Go.Sx.enters_of Tryd.func13 rfl (by decide)) fun w hw => ?_).mono fun r m h => h.1
  refine (Tryd.strings_IndexByte ⟨s.toArray⟩ 10 w).mono fun e w' ⟨h1, h2⟩ => ?_
  subst h2
  refine ⟨_, rfl, ?_, rfl, rfl, rfl, Nat.le_refl _, fun _ _ => rfl⟩
  have e1 : Lib.indexByte (⟨s.toArray⟩ : ByteArray).data.toList (10 : Int).toNat.toUInt8 = (Jr.cut s : Int) - 1 := by
    have := Jr.index_cut s
    show Lib.indexByte s 10 = _
    omega
  rw [h1, e1]
  rfl
theorem parse36_raw (F : Heap) (hF : TabF F) (hE : ErrF F) (hS : SpaceF F) (hW : WhiteF F) (s : List UInt8) (hs : s.length ≤ 5000) (R : List Jr.Rec × Bool) (hR : Jr.parse s.length [] s = R) :
    NCall Tryd.prog 5 [.str s] [hpB F] fun r m =>
      (R.2 = true ∧ ∃ v, MemFits m [hpB F, ⟨addrOf v, R.1.flatMap Jr.Rec.av, .row v 37 4 R.1.length⟩] ∧ r.den = (AV.tup [.sl 1 v R.1.length, .int .i64 0, .int .i64 0]).den) ∨
      (R.2 = false ∧ MemFits m [hpB F] ∧ r.den = (AV.tup [.hs (.slice none 0 0) 0, .int .i64 (R.1.length + 1), .int .i64 10]).den) := by
  generalize hN : s.length = N at hR hs
  refine ncall_of Tryd.func5 rfl (by decide) ?_
  (repeat' (first | (with_reducible first|refine z0 ?_|refine z1 ?_|refine z2 ?_|refine z3 ?_|refine z4 ?_|refine z5 ?_|refine z6 ?_|refine z7 ?_|refine z8 ?_|refine z9 ?_|refine z10 ?_|refine z11 ?_|refine z12 ?_|refine z13 ?_|refine z14 ?_|refine z15 ?_|refine z16 ?_|refine z17 ?_|refine z18 ?_|refine z19 ?_|refine z20 ?_|refine z21 ?_|refine z22 ?_|refine z23 ?_|refine z24 ?_) | (((with_reducible first|refine z25 ?_|refine z26 ?_|refine z27 ?_|refine z28 ?_);intro K hK;(conv=>whnf))) | (with_reducible first|(refine hK _ _ ?_;clear hK K)|(refine hA ?_;clear hA hB A B)|(refine hB ?_;clear hA hB A B)|(refine hK _ ?_;clear hK K)) | ((with_reducible refine z29 ?_);intro A B hA hB;(conv=>whnf)) | (refine z30 (by decide) ?_) | ((first|refine z31 rfl ?_|refine z32 rfl ?_|refine z33 rfl ?_);intro K hK;(conv=>whnf)) | (refine z34 (by kernel_rfl) (by kernel_rfl) ?_) | (((with_reducible first|refine NV.quo ?s ?_|refine NV.rem ?s ?_|refine NV.i64 ?s ?_|refine NV.u32 ?s ?_|refine NV.u8 ?s ?_|refine NV.u64 ?s ?_);case s=>omega)<;>(conv=>whnf)) | ((with_reducible first|refine NV.divk ?_|refine NV.modk ?_|refine NN.lit ?_|refine NN.cast ?_|refine NN.a1 ?_|refine NN.a2 ?_|refine NN.a3 ?_|refine NN.a4 ?_|refine NN.a5 ?_|refine NN.a6 ?_|refine NV.keep ?_|refine NN.keep ?_|refine NS.keep ?_|refine NIf.not_ ?_)<;>(conv=>whnf)) | (((with_reducible refine NH.mk ?s ?_);case s=>(and_intros <;> first | with_reducible rfl | omega | assumption | exact Nat.le_of_ble_eq_true rfl | (simp only [List.length_append, List.length_cons, List.length_nil]; omega) | rfl))<;>(conv=>whnf)) | (((with_reducible refine NIf.decY ?s ?_);case s=>first|with_reducible rfl|assumption|omega)<;>(conv=>whnf)) | (((with_reducible refine NIf.decN ?s ?_);case s=>first|with_reducible rfl|assumption|omega)<;>(conv=>whnf)) | (((with_reducible refine NIf.yes ?s ?_);case s=>first|rfl|assumption)<;>(conv=>whnf)) | (((with_reducible refine NIf.no ?s ?_);case s=>first|rfl|assumption)<;>(conv=>whnf)) | (((with_reducible refine NLd.of (by with_reducible assumption) ?_))<;>(conv=>whnf)) | ((refine NFlat_iff.2 ⟨⟨?s1,?s2⟩,?_⟩;(case s1=>decide +kernel);(case s2=>decide +kernel))<;>(conv=>whnf)) | ((with_reducible first|refine NIf.dec (fun _=>?_) (fun _=>?_)|refine NIf.both (fun _=>?_) (fun _=>?_))<;>(conv=>whnf)) | ((intro _;skip)<;>(conv=>whnf))))
  refine st_auto (α := List UInt8 × List Jr.Rec × Value × Nat) (fun x => x.1.length ≤ N ∧ x.2.1.length + x.1.length ≤ N ∧ x.2.2.2 = x.2.1.length ∧ Jr.parse N x.2.1 x.1 = R) (fun x => [.set (.str x.1), .keep, .drop, .drop, .drop, .set (.sl 1 x.2.2.1 x.2.2.2), .drop, .drop, .drop, .drop, .drop, .drop, .drop, .drop, .drop, .drop, .drop, .drop, .drop, .drop, .drop, .drop, .drop, .drop, .drop, .drop, .drop, .drop, .drop, .drop, .drop, .drop, .drop, .keep]) (fun x => [.keep, .set ⟨addrOf x.2.2.1, x.2.1.flatMap Jr.Rec.av, .row x.2.2.1 37 4 x.2.2.2⟩]) (fun x => x.1.length) (s, [], .slice none 0 0, 0) ⟨by dsimp only; omega, by dsimp only; simp; omega, rfl, hR⟩ ?_ (MemFits.nilRow _ _ _) ?_
  · repeat (first | exact FitsSl.nil | refine FitsSl.any ?_ | refine FitsSl.cons (Fit1.int (by first | rfl | omega)) ?_ | refine FitsSl.cons (Fit1.bool rfl) ?_ | refine FitsSl.cons (Fit1.str rfl) ?_ | refine FitsSl.cons (Fit1.same (by intro h; cases h) (by with_reducible rfl)) ?_ | refine FitsSl.cons Fit1.nil_sl ?_ | refine FitsSl.cons (Fit1.hs rfl) ?_ | refine FitsSl.cons (Fit1.hp rfl rfl) ?_ | refine FitsSl.cons (Fit1.sl rfl) ?_ | refine FitsSl.cons (Fit1.ptr rfl rfl) ?_ | refine FitsSl.cons Fit1.raw ?_)
  (intro ⟨t, out, u, n⟩ ⟨ht, hto, hn, hp⟩; intro K hK; (conv=>whnf); refine hK _ _ ?_; clear hK K)
  dsimp only at ht hto hn hp ⊢
  by_cases h0 : t = []
  · subst h0
    rw [Jr.parse_nil] at hp
    subst hp
    subst hn
    (repeat' (first | (with_reducible first|refine z0 ?_|refine z1 ?_|refine z2 ?_|refine z3 ?_|refine z4 ?_|refine z5 ?_|refine z6 ?_|refine z7 ?_|refine z8 ?_|refine z9 ?_|refine z10 ?_|refine z11 ?_|refine z12 ?_|refine z13 ?_|refine z14 ?_|refine z15 ?_|refine z16 ?_|refine z17 ?_|refine z18 ?_|refine z19 ?_|refine z20 ?_|refine z21 ?_|refine z22 ?_|refine z23 ?_|refine z24 ?_) | (((with_reducible first|refine z25 ?_|refine z26 ?_|refine z27 ?_|refine z28 ?_);intro K hK;(conv=>whnf))) | (with_reducible first|(refine hK _ _ ?_;clear hK K)|(refine hA ?_;clear hA hB A B)|(refine hB ?_;clear hA hB A B)|(refine hK _ ?_;clear hK K)) | ((with_reducible refine z29 ?_);intro A B hA hB;(conv=>whnf)) | (refine z30 (by decide) ?_) | ((first|refine z31 rfl ?_|refine z32 rfl ?_|refine z33 rfl ?_);intro K hK;(conv=>whnf)) | (refine z34 (by kernel_rfl) (by kernel_rfl) ?_) | (((with_reducible first|refine NIf.yes ?s ?_);case s=>(simp ;done))<;>(conv=>whnf)) | (((with_reducible first|refine NIf.no ?s ?_);case s=>(simp ;done))<;>(conv=>whnf)) | (((with_reducible first|refine NV.quo ?s ?_|refine NV.rem ?s ?_|refine NV.i64 ?s ?_|refine NV.u32 ?s ?_|refine NV.u8 ?s ?_|refine NV.u64 ?s ?_);case s=>omega)<;>(conv=>whnf)) | ((with_reducible first|refine NV.divk ?_|refine NV.modk ?_|refine NN.lit ?_|refine NN.cast ?_|refine NN.a1 ?_|refine NN.a2 ?_|refine NN.a3 ?_|refine NN.a4 ?_|refine NN.a5 ?_|refine NN.a6 ?_|refine NV.keep ?_|refine NN.keep ?_|refine NS.keep ?_|refine NIf.not_ ?_)<;>(conv=>whnf)) | (((with_reducible refine NH.mk ?s ?_);case s=>(and_intros <;> first | with_reducible rfl | omega | assumption | exact Nat.le_of_ble_eq_true rfl | (simp only [List.length_append, List.length_cons, List.length_nil]; omega) | rfl))<;>(conv=>whnf)) | (((with_reducible refine NIf.decY ?s ?_);case s=>first|with_reducible rfl|assumption|omega)<;>(conv=>whnf)) | (((with_reducible refine NIf.decN ?s ?_);case s=>first|with_reducible rfl|assumption|omega)<;>(conv=>whnf)) | (((with_reducible refine NIf.yes ?s ?_);case s=>first|rfl|assumption)<;>(conv=>whnf)) | (((with_reducible refine NIf.no ?s ?_);case s=>first|rfl|assumption)<;>(conv=>whnf)) | (((with_reducible refine NLd.of (by with_reducible assumption) ?_))<;>(conv=>whnf)) | ((refine NFlat_iff.2 ⟨⟨?s1,?s2⟩,?_⟩;(case s1=>decide +kernel);(case s2=>decide +kernel))<;>(conv=>whnf)) | ((with_reducible first|refine NIf.dec (fun _=>?_) (fun _=>?_)|refine NIf.both (fun _=>?_) (fun _=>?_))<;>(conv=>whnf)) | ((intro _;skip)<;>(conv=>whnf))))
    all_goals exact .inl ⟨rfl, u, MemFits.pre 2 rfl, rfl⟩
  · have hcl := Jr.cut_le t
    have hi := index36_c t
    have hrd := read36_c F hF hE hS hW (t.take (Jr.cut t)) (by rw [List.length_take]; omega)
    rw [Jr.parse_step h0 ht] at hp
    obtain ⟨x, hx⟩ : ∃ x : Int, x = (Jr.cut t : Int) - 1 := ⟨_, rfl⟩
    rw [← hx] at hi
    have hc : Jr.cut t = (x + 1).toNat := by omega
    have hx0 : 0 ≤ x + 1 := by omega
    rw [hc] at hp hrd hcl
    clear hx hc
    cases hr : Jr.rd (t.take (x + 1).toNat) with
    | none =>
      rw [hr] at hp hrd
      dsimp only at hp
      subst hp
      subst hn
      simp only [Option.isSome_none, Jr.Rec.av] at hrd
      generalize Jr.pr (t.take (x + 1).toNat) = p at *
      (repeat' (first | (with_reducible first|refine z0 ?_|refine z1 ?_|refine z2 ?_|refine z3 ?_|refine z4 ?_|refine z5 ?_|refine z6 ?_|refine z7 ?_|refine z8 ?_|refine z9 ?_|refine z10 ?_|refine z11 ?_|refine z12 ?_|refine z13 ?_|refine z14 ?_|refine z15 ?_|refine z16 ?_|refine z17 ?_|refine z18 ?_|refine z19 ?_|refine z20 ?_|refine z21 ?_|refine z22 ?_|refine z23 ?_|refine z24 ?_) | (((with_reducible first|refine z25 ?_|refine z26 ?_|refine z27 ?_|refine z28 ?_);intro K hK;(conv=>whnf))) | (with_reducible first|(refine hK _ _ ?_;clear hK K)|(refine hA ?_;clear hA hB A B)|(refine hB ?_;clear hA hB A B)|(refine hK _ ?_;clear hK K)) | ((with_reducible refine z29 ?_);intro A B hA hB;(conv=>whnf)) | (refine z30 (by decide) ?_) | ((first|refine z31 rfl ?_|refine z32 rfl ?_|refine z33 rfl ?_);intro K hK;(conv=>whnf)) | (refine z34 (by kernel_rfl) (by kernel_rfl) ?_) | (((with_reducible first|refine NIf.yes ?s ?_);case s=>(simp [h0];done))<;>(conv=>whnf)) | (((with_reducible first|refine NIf.no ?s ?_);case s=>(simp [h0];done))<;>(conv=>whnf)) | ((with_reducible refine NCall.isF 13 ?_); (refine NCall.pure (hi) ?_; rintro _ _ rfl; refine ⟨_, rfl, ?_⟩; (conv=>whnf))) | ((with_reducible refine NCall.isF 14 ?_); (refine NCall.subw [0] _ _ (hrd) rfl (by decide) rfl ?_; rintro _ _ ⟨rfl, rfl⟩; refine ⟨Nat.le_of_ble_eq_true rfl, _, rfl, ?_⟩; (conv=>whnf))) | (((with_reducible first|refine NV.quo ?s ?_|refine NV.rem ?s ?_|refine NV.i64 ?s ?_|refine NV.u32 ?s ?_|refine NV.u8 ?s ?_|refine NV.u64 ?s ?_);case s=>omega)<;>(conv=>whnf)) | ((with_reducible first|refine NV.divk ?_|refine NV.modk ?_|refine NN.lit ?_|refine NN.cast ?_|refine NN.a1 ?_|refine NN.a2 ?_|refine NN.a3 ?_|refine NN.a4 ?_|refine NN.a5 ?_|refine NN.a6 ?_|refine NV.keep ?_|refine NN.keep ?_|refine NS.keep ?_|refine NIf.not_ ?_)<;>(conv=>whnf)) | (((with_reducible refine NH.mk ?s ?_);case s=>(and_intros <;> first | with_reducible rfl | omega | assumption | exact Nat.le_of_ble_eq_true rfl | (simp only [List.length_append, List.length_cons, List.length_nil]; omega) | rfl))<;>(conv=>whnf)) | (((with_reducible refine NIf.decY ?s ?_);case s=>first|with_reducible rfl|assumption|omega)<;>(conv=>whnf)) | (((with_reducible refine NIf.decN ?s ?_);case s=>first|with_reducible rfl|assumption|omega)<;>(conv=>whnf)) | (((with_reducible refine NIf.yes ?s ?_);case s=>first|rfl|assumption)<;>(conv=>whnf)) | (((with_reducible refine NIf.no ?s ?_);case s=>first|rfl|assumption)<;>(conv=>whnf)) | (((with_reducible refine NLd.of (by with_reducible assumption) ?_))<;>(conv=>whnf)) | ((refine NFlat_iff.2 ⟨⟨?s1,?s2⟩,?_⟩;(case s1=>decide +kernel);(case s2=>decide +kernel))<;>(conv=>whnf)) | ((with_reducible first|refine NIf.dec (fun _=>?_) (fun _=>?_)|refine NIf.both (fun _=>?_) (fun _=>?_))<;>(conv=>whnf)) | ((intro _;skip)<;>(conv=>whnf))))
      all_goals exact .inr ⟨rfl, MemFits.pre 1 rfl, rfl⟩
    | some r =>
      have hpr := Jr.rd_pr hr
      have hln := Jr.rd_len hr
      rw [List.length_take] at hln
      rw [hr, hpr] at hrd
      rw [hr] at hp
      dsimp only at hp
      simp only [Option.isSome_some, Jr.Rec.av] at hrd
      (repeat' (first | (with_reducible first|refine z0 ?_|refine z1 ?_|refine z2 ?_|refine z3 ?_|refine z4 ?_|refine z5 ?_|refine z6 ?_|refine z7 ?_|refine z8 ?_|refine z9 ?_|refine z10 ?_|refine z11 ?_|refine z12 ?_|refine z13 ?_|refine z14 ?_|refine z15 ?_|refine z16 ?_|refine z17 ?_|refine z18 ?_|refine z19 ?_|refine z20 ?_|refine z21 ?_|refine z22 ?_|refine z23 ?_|refine z24 ?_) | (((with_reducible first|refine z25 ?_|refine z26 ?_|refine z27 ?_|refine z28 ?_);intro K hK;(conv=>whnf))) | (with_reducible first|(refine hK _ _ ?_;clear hK K)|(refine hA ?_;clear hA hB A B)|(refine hB ?_;clear hA hB A B)|(refine hK _ ?_;clear hK K)) | ((with_reducible refine z29 ?_);intro A B hA hB;(conv=>whnf)) | (refine z30 (by decide) ?_) | ((first|refine z31 rfl ?_|refine z32 rfl ?_|refine z33 rfl ?_);intro K hK;(conv=>whnf)) | (refine z34 (by kernel_rfl) (by kernel_rfl) ?_) | (((with_reducible first|refine NIf.yes ?s ?_);case s=>(simp [h0];done))<;>(conv=>whnf)) | (((with_reducible first|refine NIf.no ?s ?_);case s=>(simp [h0];done))<;>(conv=>whnf)) | ((with_reducible refine NCall.isF 13 ?_); (refine NCall.pure (hi) ?_; rintro _ _ rfl; refine ⟨_, rfl, ?_⟩; (conv=>whnf))) | ((with_reducible refine NCall.isF 14 ?_); (refine NCall.subw [0] _ _ (hrd) rfl (by decide) rfl ?_; rintro _ _ ⟨rfl, rfl⟩; refine ⟨Nat.le_of_ble_eq_true rfl, _, rfl, ?_⟩; (conv=>whnf))) | (((with_reducible first|refine NV.quo ?s ?_|refine NV.rem ?s ?_|refine NV.i64 ?s ?_|refine NV.u32 ?s ?_|refine NV.u8 ?s ?_|refine NV.u64 ?s ?_);case s=>omega)<;>(conv=>whnf)) | ((with_reducible first|refine NV.divk ?_|refine NV.modk ?_|refine NN.lit ?_|refine NN.cast ?_|refine NN.a1 ?_|refine NN.a2 ?_|refine NN.a3 ?_|refine NN.a4 ?_|refine NN.a5 ?_|refine NN.a6 ?_|refine NV.keep ?_|refine NN.keep ?_|refine NS.keep ?_|refine NIf.not_ ?_)<;>(conv=>whnf)) | (((with_reducible refine NH.mk ?s ?_);case s=>(and_intros <;> first | with_reducible rfl | omega | assumption | exact Nat.le_of_ble_eq_true rfl | (simp only [List.length_append, List.length_cons, List.length_nil]; omega) | rfl))<;>(conv=>whnf)) | (((with_reducible refine NIf.decY ?s ?_);case s=>first|with_reducible rfl|assumption|omega)<;>(conv=>whnf)) | (((with_reducible refine NIf.decN ?s ?_);case s=>first|with_reducible rfl|assumption|omega)<;>(conv=>whnf)) | (((with_reducible refine NIf.yes ?s ?_);case s=>first|rfl|assumption)<;>(conv=>whnf)) | (((with_reducible refine NIf.no ?s ?_);case s=>first|rfl|assumption)<;>(conv=>whnf)) | (((with_reducible refine NLd.of (by with_reducible assumption) ?_))<;>(conv=>whnf)) | ((refine NFlat_iff.2 ⟨⟨?s1,?s2⟩,?_⟩;(case s1=>decide +kernel);(case s2=>decide +kernel))<;>(conv=>whnf)) | ((with_reducible first|refine NIf.dec (fun _=>?_) (fun _=>?_)|refine NIf.both (fun _=>?_) (fun _=>?_))<;>(conv=>whnf)) | ((intro _;skip)<;>(conv=>whnf))))
      rename_i v2
      refine st_round (t.drop (x + 1).toNat, out ++ [r], v2, n + 1) ⟨?_, ?_, ?_, hp⟩ (by dsimp only; rw [List.length_drop]; omega) ?_ (MemFits.trans (MemFits.pre 2 rfl) (MemFits.eq ?_))
      · dsimp only; rw [List.length_drop]; omega
      · dsimp only; rw [List.length_drop, List.length_append, List.length_singleton]; omega
      · dsimp only; rw [List.length_append, List.length_singleton, hn]
      · repeat (first | exact FitsSl.nil | refine FitsSl.any ?_ | refine FitsSl.cons (Fit1.int (by first | rfl | omega)) ?_ | refine FitsSl.cons (Fit1.bool rfl) ?_ | refine FitsSl.cons (Fit1.str rfl) ?_ | refine FitsSl.cons (Fit1.same (by intro h; cases h) (by with_reducible rfl)) ?_ | refine FitsSl.cons Fit1.nil_sl ?_ | refine FitsSl.cons (Fit1.hs rfl) ?_ | refine FitsSl.cons (Fit1.hp rfl rfl) ?_ | refine FitsSl.cons (Fit1.sl rfl) ?_ | refine FitsSl.cons (Fit1.ptr rfl rfl) ?_ | refine FitsSl.cons Fit1.raw ?_)
      · dsimp only
        rw [List.flatMap_append]
        rfl
theorem parse36_c (F : Heap) (hF : TabF F) (hE : ErrF F) (hS : SpaceF F) (hW : WhiteF F) (s : List UInt8) (hs : s.length ≤ 5000) (R : List Jr.Rec × Bool) (hR : Jr.parse s.length [] s = R) :
    NCall Tryd.prog 5 [.str s] [hpB F] fun r m =>
      (R.2 = true ∧ ∃ F' v, F.le F' ∧ m = [hpB F'] ∧ r = .tup [.hs v R.1.length, .int .i64 0, .int .i64 0] ∧ Jr.Row F' v R.1) ∨
      (R.2 = false ∧ m = [hpB F] ∧ r = .tup [.hs (.slice none 0 0) 0, .int .i64 (R.1.length + 1), .int .i64 10]) := by
  refine Go.Sx.NCall.know (parse36_raw F hF hE hS hW s hs R hR) fun r m' h ⟨w, hw⟩ => ?_
  rcases h with ⟨hb, v, hm, hr⟩ | ⟨hb, hm, hr⟩
  · obtain ⟨hok, _, hsl⟩ := (hm w hw).1.row (List.mem_cons_of_mem _ (List.mem_singleton.2 rfl))
    refine ⟨.tup [.hs v R.1.length, .int .i64 0, .int .i64 0], _, ?_, hm.trans (MemFits.freeze (m := [])), .inl ⟨hb, _, v, addF.old, rfl, rfl, rowF_new hok (Jr.av_den _) (fun x _ => rfl)⟩⟩
    rw [hr]; rfl
  · exact ⟨.tup [.hs (.slice none 0 0) 0, .int .i64 (R.1.length + 1), .int .i64 10], _, by rw [hr], hm, .inr ⟨hb, rfl, rfl⟩⟩
end Go.Proofs.YtdalneokgejmjaaDoor
