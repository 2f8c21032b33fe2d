/-
  Journals, walked: as text; the chapter's example.
-/
import Derived.Test.YtdalneokgejmjaaDoorJr3
import Derived.Test.YtdalneokgejmjaaDoorBld
import Derived.Test.YtdalneokgejmjaaDoorJr4w
namespace Go.Proofs.YtdalneokgejmjaaDoor
open Go.Sx
set_option maxRecDepth 20000
set_option linter.unusedSimpArgs false
set_option linter.unusedVariables false
set_option maxHeartbeats 1000000
set_option linter.unusedVariables false
/-- A block of which nothing is known. -/
def nilB : Blk := ⟨⟨0, 0, none⟩, [], .ro (.slice none 0 0) 1 0⟩
theorem MemFits.nils : MemFits [] [nilB, nilB] := fun w _ => by
  have hh : nilB.holds w := ⟨rfl, none, 0, rfl, Nat.le_refl _, fun _ => rfl, fun h => absurd h (by decide)⟩
  have hf : ∀ b, ¬ nilB.foot b := fun b h => by simp [nilB, Blk.foot, Blk.bn] at h
  refine ⟨⟨fun k hk => ?_, ?_⟩, fun b ⟨k, hk, hw, _⟩ => ?_, fun b ⟨k, hk, hb⟩ => ?_⟩
  · simp only [List.mem_cons, List.not_mem_nil, or_false, or_self] at hk
    rw [hk]; exact hh
  · simp only [List.pairwise_cons, List.mem_singleton, List.not_mem_nil, false_implies, implies_true, List.Pairwise.nil, and_true]
    rintro y rfl _ b h _
    exact hf b h
  · simp only [List.mem_cons, List.not_mem_nil, or_false, or_self] at hk
    subst hk; cases hw
  · simp only [List.mem_cons, List.not_mem_nil, or_false, or_self] at hk
    subst hk; exact (hf b hb).elim
theorem string_c2 (a : Addr) (p : AV) (v : Value) (l : List UInt8) (h0 : l ≠ [] ∨ v = .slice none 0 0) :
    NCall Tryd.prog 18 [.ptr 0 a 0] (bldB a 1 p v l) fun r m => r = .str l ∧ m = [nilB, nilB] :=
  (string_c a p v l h0).fits fun r m ⟨h1, h2⟩ => ⟨r, _, rfl, by rw [h1]; exact MemFits.nils, h2, rfl⟩
theorem MemFits.denVar {x : Blk} {a : Addr} {cs cs' : List AV} {t : TypeId} {r : List Blk} (h : denL cs = denL cs') : MemFits (x :: ⟨a, cs, .var t⟩ :: r) (x :: ⟨a, cs', .var t⟩ :: r) := fun w hm => by
  refine ⟨⟨fun k hk => ?_, ?_⟩, fun b ⟨k, hk, hw, hb⟩ => ?_, fun b ⟨k, hk, hb⟩ => ?_⟩
  · rcases List.mem_cons.1 hk with rfl | hk
    · exact hm.holds _ (by simp)
    · rcases List.mem_cons.1 hk with rfl | hk
      · have := hm.holds ⟨a, cs, .var t⟩ (by simp)
        obtain ⟨h1, h2, h3⟩ := this
        exact ⟨h1, h2, by rw [← h]; exact h3⟩
      · exact hm.holds _ (by simp [hk])
  · have hs := hm.sep
    rw [List.pairwise_cons, List.pairwise_cons] at hs ⊢
    refine ⟨fun y hy => ?_, fun y hy => hs.2.1 y hy, hs.2.2⟩
    rcases List.mem_cons.1 hy with rfl | hy
    · exact hs.1 ⟨a, cs, .var t⟩ (by simp)
    · exact hs.1 y (by simp [hy])
  · rcases List.mem_cons.1 hk with rfl | hk
    · exact ⟨_, by simp, hw, hb⟩
    · rcases List.mem_cons.1 hk with rfl | hk
      · exact ⟨⟨a, cs, .var t⟩, by simp, hw, hb⟩
      · exact ⟨k, by simp [hk], hw, hb⟩
  · rcases List.mem_cons.1 hk with rfl | hk
    · exact ⟨_, by simp, hb⟩
    · rcases List.mem_cons.1 hk with rfl | hk
      · exact ⟨⟨a, cs, .var t⟩, by simp, hb⟩
      · exact ⟨k, by simp [hk], hb⟩
theorem text36_c (F : Heap) (hF : TabF F) (v : Value) (l : List Jr.Rec) (hv : Jr.Row F v l) (hl : l.length ≤ 1100000) (hr : ∀ r ∈ l, r.ok) :
    NCall Tryd.prog 8 [.hs v l.length] [hpB F] fun r m => r = .str (Jr.text l) ∧ m = [hpB F] := by
  refine NCall.fits (K := fun v m => v = .str (Jr.text l) ∧ MemFits m [hpB F]) ?_ fun r m' h => ⟨r, _, rfl, h.2, h.1, rfl⟩
  refine ncall_of Tryd.func8 rfl (by decide) ?_
  have hok := hv.ok
  (repeat' (first | (with_reducible first|refine z0 ?_|refine z1 ?_|refine z2 ?_|refine z3 ?_|refine z4 ?_|refine z5 ?_|refine z6 ?_|refine z7 ?_|refine z8 ?_|refine z9 ?_|refine z10 ?_|refine z11 ?_|refine z12 ?_|refine z13 ?_|refine z14 ?_|refine z15 ?_|refine z16 ?_|refine z17 ?_|refine z18 ?_|refine z19 ?_|refine z20 ?_|refine z21 ?_|refine z22 ?_|refine z23 ?_|refine z24 ?_) | (((with_reducible first|refine z25 ?_|refine z26 ?_|refine z27 ?_|refine z28 ?_);intro K hK;(conv=>whnf))) | (with_reducible first|(refine hK _ _ ?_;clear hK K)|(refine hA ?_;clear hA hB A B)|(refine hB ?_;clear hA hB A B)|(refine hK _ ?_;clear hK K)) | ((with_reducible refine z29 ?_);intro A B hA hB;(conv=>whnf)) | (refine z30 (by decide) ?_) | ((first|refine z31 rfl ?_|refine z32 rfl ?_|refine z33 rfl ?_);intro K hK;(conv=>whnf)) | (refine z34 (by kernel_rfl) (by kernel_rfl) ?_) | (((with_reducible first|refine NV.quo ?s ?_|refine NV.rem ?s ?_|refine NV.i64 ?s ?_|refine NV.u32 ?s ?_|refine NV.u8 ?s ?_|refine NV.u64 ?s ?_);case s=>omega)<;>(conv=>whnf)) | ((with_reducible first|refine NV.divk ?_|refine NV.modk ?_|refine NN.lit ?_|refine NN.cast ?_|refine NN.a1 ?_|refine NN.a2 ?_|refine NN.a3 ?_|refine NN.a4 ?_|refine NN.a5 ?_|refine NN.a6 ?_|refine NV.keep ?_|refine NN.keep ?_|refine NS.keep ?_|refine NIf.not_ ?_)<;>(conv=>whnf)) | (((with_reducible refine NH.mk ?s ?_);case s=>(and_intros <;> first | with_reducible rfl | omega | assumption | exact Nat.le_of_ble_eq_true rfl | (simp only [List.length_append, List.length_cons, List.length_nil]; omega) | rfl))<;>(conv=>whnf)) | (((with_reducible refine NIf.decY ?s ?_);case s=>first|with_reducible rfl|assumption|omega)<;>(conv=>whnf)) | (((with_reducible refine NIf.decN ?s ?_);case s=>first|with_reducible rfl|assumption|omega)<;>(conv=>whnf)) | (((with_reducible refine NIf.yes ?s ?_);case s=>first|rfl|assumption)<;>(conv=>whnf)) | (((with_reducible refine NIf.no ?s ?_);case s=>first|rfl|assumption)<;>(conv=>whnf)) | (((with_reducible refine NLd.of (by with_reducible assumption) ?_))<;>(conv=>whnf)) | ((refine NFlat_iff.2 ⟨⟨?s1,?s2⟩,?_⟩;(case s1=>decide +kernel);(case s2=>decide +kernel))<;>(conv=>whnf)) | ((with_reducible first|refine NIf.dec (fun _=>?_) (fun _=>?_)|refine NIf.both (fun _=>?_) (fun _=>?_))<;>(conv=>whnf)) | ((intro _;skip)<;>(conv=>whnf))))
  rename_i b1
  refine st_auto (α := Nat × Bool × Value) (fun x => x.1 ≤ l.length ∧ (x.1 = 0 → x.2.2 = .slice none 0 0)) (fun x => [.keep, .keep, .keep, .keep, .keep, .drop, .keep, .keep, .set (.int .i64 x.1), .drop, .drop, .drop, .drop, .drop, .drop, .drop, .keep])
    (fun x => [.keep, .set ⟨⟨b1, 0, none⟩, [if x.2.1 then .ptr 0 ⟨b1, 0, none⟩ 0 else .raw (.pointer none), .sl 1 x.2.2 (Jr.text (l.take x.1)).length], .var 51⟩, .set ⟨addrOf x.2.2, Bld.bytesAV (Jr.text (l.take x.1)), .row x.2.2 5 1 (Jr.text (l.take x.1)).length⟩])
    (fun x => l.length - x.1) (0, false, .slice none 0 0) ⟨Nat.zero_le _, fun _ => rfl⟩ ?_ ?_ ?_
  · repeat (first | exact FitsSl.nil | refine FitsSl.any ?_ | refine FitsSl.cons (Fit1.int (by first | rfl | omega)) ?_ | refine FitsSl.cons (Fit1.bool rfl) ?_ | refine FitsSl.cons (Fit1.str rfl) ?_ | refine FitsSl.cons (Fit1.same (by intro h; cases h) (by with_reducible rfl)) ?_ | refine FitsSl.cons Fit1.nil_sl ?_ | refine FitsSl.cons (Fit1.hs rfl) ?_ | refine FitsSl.cons (Fit1.hp rfl rfl) ?_ | refine FitsSl.cons (Fit1.sl rfl) ?_ | refine FitsSl.cons (Fit1.ptr rfl rfl) ?_ | refine FitsSl.cons Fit1.raw ?_)
  · refine MemFits.trans (MemFits.denVar (cs' := [.raw (.pointer none), .sl 1 (.slice none 0 0) 0]) rfl) (MemFits.nilRow _ 5 1)
  (intro ⟨k, us, u⟩ ⟨hk, hu⟩; intro K hK; (conv=>whnf); refine hK _ _ ?_; clear hK K)
  dsimp only at hk hu ⊢
  by_cases hlt : k < l.length
  · obtain ⟨e0, e1, e2, e3⟩ := hv.get4 hlt
    have hrk := hr l[k] (List.getElem_mem hlt)
    have htn := Jr.take_next l k hlt
    have hte : Jr.text (l.take (k + 1)) = Jr.text (l.take k) ++ Jr.line l[k] := by
      rw [htn]; unfold Jr.text; rw [List.flatMap_append]; simp
    have hln := line36_c F hF l[k] hrk
    have hll := Jr.line_len hrk
    have htl := Jr.text_len (l.take k) (fun x hx => hr x (List.mem_of_mem_take hx))
    rw [List.length_take] at htl
    have hwr := write_c ⟨b1, 0, none⟩ (if us then .ptr 0 ⟨b1, 0, none⟩ 0 else .raw (.pointer none)) u (Jr.text (l.take k)) (Jr.line l[k]) (by cases us <;> simp) (by omega)
    simp only [Jr.Rec.av] at hln
    generalize Jr.text (l.take k) = tx at *
    generalize Jr.line l[k] = ln at *
    (repeat' (first | (with_reducible first|refine z0 ?_|refine z1 ?_|refine z2 ?_|refine z3 ?_|refine z4 ?_|refine z5 ?_|refine z6 ?_|refine z7 ?_|refine z8 ?_|refine z9 ?_|refine z10 ?_|refine z11 ?_|refine z12 ?_|refine z13 ?_|refine z14 ?_|refine z15 ?_|refine z16 ?_|refine z17 ?_|refine z18 ?_|refine z19 ?_|refine z20 ?_|refine z21 ?_|refine z22 ?_|refine z23 ?_|refine z24 ?_) | (((with_reducible first|refine z25 ?_|refine z26 ?_|refine z27 ?_|refine z28 ?_);intro K hK;(conv=>whnf))) | (with_reducible first|(refine hK _ _ ?_;clear hK K)|(refine hA ?_;clear hA hB A B)|(refine hB ?_;clear hA hB A B)|(refine hK _ ?_;clear hK K)) | ((with_reducible refine z29 ?_);intro A B hA hB;(conv=>whnf)) | (refine z30 (by decide) ?_) | ((first|refine z31 rfl ?_|refine z32 rfl ?_|refine z33 rfl ?_);intro K hK;(conv=>whnf)) | (refine z34 (by kernel_rfl) (by kernel_rfl) ?_) | ((with_reducible refine NCall.isF 17 ?_); (refine NCall.subw [0] _ _ (hln) rfl (by decide) rfl ?_; rintro _ _ ⟨rfl, rfl⟩; refine ⟨Nat.le_of_ble_eq_true rfl, _, rfl, ?_⟩; (conv=>whnf))) | ((with_reducible refine NCall.isF 16 ?_); (refine NCall.subw [1, 2] _ _ (hwr) rfl (by decide) rfl ?_; rintro _ _ ⟨v2, rfl, rfl⟩; refine ⟨Nat.le_of_ble_eq_true rfl, _, rfl, ?_⟩; (conv=>whnf))) | (((with_reducible first|refine NV.quo ?s ?_|refine NV.rem ?s ?_|refine NV.i64 ?s ?_|refine NV.u32 ?s ?_|refine NV.u8 ?s ?_|refine NV.u64 ?s ?_);case s=>omega)<;>(conv=>whnf)) | ((with_reducible first|refine NV.divk ?_|refine NV.modk ?_|refine NN.lit ?_|refine NN.cast ?_|refine NN.a1 ?_|refine NN.a2 ?_|refine NN.a3 ?_|refine NN.a4 ?_|refine NN.a5 ?_|refine NN.a6 ?_|refine NV.keep ?_|refine NN.keep ?_|refine NS.keep ?_|refine NIf.not_ ?_)<;>(conv=>whnf)) | (((with_reducible refine NH.mk ?s ?_);case s=>(and_intros <;> first | with_reducible rfl | omega | assumption | exact Nat.le_of_ble_eq_true rfl | (simp only [List.length_append, List.length_cons, List.length_nil]; omega) | rfl))<;>(conv=>whnf)) | (((with_reducible refine NIf.decY ?s ?_);case s=>first|with_reducible rfl|assumption|omega)<;>(conv=>whnf)) | (((with_reducible refine NIf.decN ?s ?_);case s=>first|with_reducible rfl|assumption|omega)<;>(conv=>whnf)) | (((with_reducible refine NIf.yes ?s ?_);case s=>first|rfl|assumption)<;>(conv=>whnf)) | (((with_reducible refine NIf.no ?s ?_);case s=>first|rfl|assumption)<;>(conv=>whnf)) | (((with_reducible refine NLd.of (by with_reducible assumption) ?_))<;>(conv=>whnf)) | ((refine NFlat_iff.2 ⟨⟨?s1,?s2⟩,?_⟩;(case s1=>decide +kernel);(case s2=>decide +kernel))<;>(conv=>whnf)) | ((with_reducible first|refine NIf.dec (fun _=>?_) (fun _=>?_)|refine NIf.both (fun _=>?_) (fun _=>?_))<;>(conv=>whnf)) | ((intro _;skip)<;>(conv=>whnf))))
    refine st_round (k + 1, true, v2) ⟨hlt, fun h => absurd h (Nat.succ_ne_zero k)⟩ (by dsimp only; omega) ?_ (MemFits.trans (MemFits.pre 3 rfl) (MemFits.eq ?_))
    · repeat (first | exact FitsSl.nil | refine FitsSl.any ?_ | refine FitsSl.cons (Fit1.int (by first | rfl | omega)) ?_ | refine FitsSl.cons (Fit1.bool rfl) ?_ | refine FitsSl.cons (Fit1.str rfl) ?_ | refine FitsSl.cons (Fit1.same (by intro h; cases h) (by with_reducible rfl)) ?_ | refine FitsSl.cons Fit1.nil_sl ?_ | refine FitsSl.cons (Fit1.hs rfl) ?_ | refine FitsSl.cons (Fit1.hp rfl rfl) ?_ | refine FitsSl.cons (Fit1.sl rfl) ?_ | refine FitsSl.cons (Fit1.ptr rfl rfl) ?_ | refine FitsSl.cons Fit1.raw ?_)
    · dsimp only
      rw [hte]
      rfl
  · have hkl : k = l.length := by omega
    subst hkl
    rw [List.take_length]
    have hst := string_c2 ⟨b1, 0, none⟩ (if us then .ptr 0 ⟨b1, 0, none⟩ 0 else .raw (.pointer none)) u (Jr.text l) (by
      cases l with
      | nil => exact .inr (hu rfl)
      | cons r l =>
        left
        unfold Jr.text
        rw [List.flatMap_cons]
        unfold Jr.line
        simp)
    generalize Jr.text l = tx at *
    (repeat' (first | (with_reducible first|refine z0 ?_|refine z1 ?_|refine z2 ?_|refine z3 ?_|refine z4 ?_|refine z5 ?_|refine z6 ?_|refine z7 ?_|refine z8 ?_|refine z9 ?_|refine z10 ?_|refine z11 ?_|refine z12 ?_|refine z13 ?_|refine z14 ?_|refine z15 ?_|refine z16 ?_|refine z17 ?_|refine z18 ?_|refine z19 ?_|refine z20 ?_|refine z21 ?_|refine z22 ?_|refine z23 ?_|refine z24 ?_) | (((with_reducible first|refine z25 ?_|refine z26 ?_|refine z27 ?_|refine z28 ?_);intro K hK;(conv=>whnf))) | (with_reducible first|(refine hK _ _ ?_;clear hK K)|(refine hA ?_;clear hA hB A B)|(refine hB ?_;clear hA hB A B)|(refine hK _ ?_;clear hK K)) | ((with_reducible refine z29 ?_);intro A B hA hB;(conv=>whnf)) | (refine z30 (by decide) ?_) | ((first|refine z31 rfl ?_|refine z32 rfl ?_|refine z33 rfl ?_);intro K hK;(conv=>whnf)) | (refine z34 (by kernel_rfl) (by kernel_rfl) ?_) | ((with_reducible refine NCall.isF 18 ?_); (refine NCall.subw [1, 2] _ _ (hst) rfl (by decide) rfl ?_; rintro _ _ ⟨rfl, rfl⟩; refine ⟨Nat.le_of_ble_eq_true rfl, _, rfl, ?_⟩; (conv=>whnf))) | (((with_reducible first|refine NV.quo ?s ?_|refine NV.rem ?s ?_|refine NV.i64 ?s ?_|refine NV.u32 ?s ?_|refine NV.u8 ?s ?_|refine NV.u64 ?s ?_);case s=>omega)<;>(conv=>whnf)) | ((with_reducible first|refine NV.divk ?_|refine NV.modk ?_|refine NN.lit ?_|refine NN.cast ?_|refine NN.a1 ?_|refine NN.a2 ?_|refine NN.a3 ?_|refine NN.a4 ?_|refine NN.a5 ?_|refine NN.a6 ?_|refine NV.keep ?_|refine NN.keep ?_|refine NS.keep ?_|refine NIf.not_ ?_)<;>(conv=>whnf)) | (((with_reducible refine NH.mk ?s ?_);case s=>(and_intros <;> first | with_reducible rfl | omega | assumption | exact Nat.le_of_ble_eq_true rfl | (simp only [List.length_append, List.length_cons, List.length_nil]; omega) | rfl))<;>(conv=>whnf)) | (((with_reducible refine NIf.decY ?s ?_);case s=>first|with_reducible rfl|assumption|omega)<;>(conv=>whnf)) | (((with_reducible refine NIf.decN ?s ?_);case s=>first|with_reducible rfl|assumption|omega)<;>(conv=>whnf)) | (((with_reducible refine NIf.yes ?s ?_);case s=>first|rfl|assumption)<;>(conv=>whnf)) | (((with_reducible refine NIf.no ?s ?_);case s=>first|rfl|assumption)<;>(conv=>whnf)) | (((with_reducible refine NLd.of (by with_reducible assumption) ?_))<;>(conv=>whnf)) | ((refine NFlat_iff.2 ⟨⟨?s1,?s2⟩,?_⟩;(case s1=>decide +kernel);(case s2=>decide +kernel))<;>(conv=>whnf)) | ((with_reducible first|refine NIf.dec (fun _=>?_) (fun _=>?_)|refine NIf.both (fun _=>?_) (fun _=>?_))<;>(conv=>whnf)) | ((intro _;skip)<;>(conv=>whnf))))
    all_goals exact ⟨rfl, MemFits.pre 1 rfl⟩
end Go.Proofs.YtdalneokgejmjaaDoor
