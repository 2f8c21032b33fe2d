/-
  Acts: the chapter's example.
-/
import Derived.Test.YtokbckflleaplaaDoorAc3
import Derived.Test.YtokbckflleaplaaDoorAc5
import Derived.Test.YtokbckflleaplaaDoorAc9
import Derived.Test.YtokbckflleaplaaDoorSxH
namespace Go.Sx
theorem NCall.val {P : Program} {f : FuncId} {args : List AV} {m m1 : List Blk} {a b : AV} (h : NCall P f args m fun r m' => r = a ∧ m' = m1) (e : a = b) : NCall P f args m fun r m' => r = b ∧ m' = m1 := e ▸ h
end Go.Sx
namespace Go.Proofs.YtokbckflleaplaaDoor
open Go.Sx
set_option maxRecDepth 20000
set_option linter.unusedSimpArgs false
set_option linter.unusedVariables false
set_option linter.unusedVariables false
theorem fits_no (G : Heap) : MemFits [hpB G] [hpB G, hpB noHeap] := (MemFits.noHeap _).trans (MemFits.pick [1, 0] (by decide) rfl)
/-- A call over a row of one's own, that is read alone from then on. -/
theorem NCall.own1 {α : Type} {P : Program} {f : FuncId} {args args' args0 : List AV} {m0 : List Blk} {K0 : AV → List Blk → Prop} {F : Heap} {v : Value} {l : List α} {cs : List AV} {t : TypeId} {sz n : Nat} (enc : α → List Value) {K : Heap → AV → Prop}
    (h0 : NCall P f args0 m0 K0) (hargs : denL args' = denL args) (hn : n = l.length) (hcs : denL cs = l.flatMap enc) (hl : ∀ x ∈ l, (enc x).length = sz)
    (h : ∀ G, F.le G → RowF G sz (fun x us => us = enc x) v l → NCall P f args' [hpB G] fun r m => ∃ G', G.le G' ∧ m = [hpB G'] ∧ K G' r) :
    NCall P f args [hpB F, ⟨addrOf v, cs, .row v t sz n⟩] fun r m => ∃ G, F.le G ∧ RowF G sz (fun x us => us = enc x) v l ∧ m = [hpB G, hpB noHeap] ∧ K G r := by
  refine NCall.when h0 fun ⟨w, hw⟩ => ?_
  subst hn
  have hok := (hw.row (List.mem_cons_of_mem _ (List.mem_singleton.2 rfl))).1
  have hrow := rowF_new (F := F) hok hcs hl
  refine (NCall.pre (h _ addF.old hrow) hargs (MemFits.freeze (m := []))).fits fun r m' hr => ?_
  obtain ⟨G', h1, rfl, h2⟩ := hr
  exact ⟨r, _, rfl, fits_no G', G', addF.old.trans h1, hrow.mono h1 fun _ _ h => h, rfl, h2⟩
def exA : List Ac.A := [⟨1, 3, 4⟩, ⟨2, 0, 1⟩, ⟨1, 3, 5⟩]
theorem exA_run : Ac.run ⟨1, 2, 3, 0⟩ exA = [⟨1, ⟨1, 2, 3, 4⟩⟩] := by decide +kernel
theorem exA_fold : Ac.fold exA = [⟨1, 3, 4⟩, ⟨2, 0, 1⟩] := by decide +kernel
def exB : List Ac.A := [⟨1, 3, 4⟩, ⟨2, 0, 1⟩]
theorem exB_in : ∀ x ∈ exB, x.in64 := by
  intro x hx
  simp only [exB, List.mem_cons, List.not_mem_nil, or_false] at hx
  rcases hx with rfl | rfl <;> exact ⟨⟨by decide, by decide⟩, ⟨by decide, by decide⟩, by decide, by decide⟩
theorem exB_fields : ∀ x ∈ exB, x.k = 1 → 0 ≤ x.f ∧ x.f ≤ 3 := by
  intro x hx
  simp only [exB, List.mem_cons, List.not_mem_nil, or_false] at hx
  rcases hx with rfl | rfl <;> decide
theorem exB_text : Ac.text exB = [115, 101, 116, 32, 116, 97, 103, 32, 52, 44, 32, 111, 117, 116, 32, 49] := by decide +kernel
set_option maxHeartbeats 2000000 in
theorem awake9_raw (F : Heap) (hF : TabF F) : NCall Tryd.prog 24 [] [hpB F] fun r m => r = .bool true ∧ MemFits m [hpB F] := by
  refine ncall_of Tryd.func24 rfl (by decide) ?_
  have c0 : ∀ u, NCall Tryd.prog 25 [.sl 1 u 3, .agg [.int .i64 1, .int .i64 2, .int .i64 3, .int .i64 0]] [hpB F, ⟨addrOf u, Ac.avs exA, .row u 40 3 3⟩]
      fun r m => ∃ G, F.le G ∧ RowF G 3 (fun x us => us = Ac.actV x) u exA ∧ m = [hpB G, hpB noHeap] ∧ ∃ u', r = .hs u' 1 ∧ RowF G 5 (fun x us => us = Ac.sentV x) u' [⟨1, ⟨1, 2, 3, 4⟩⟩] := fun u =>
    NCall.own1 (l := exA) (args' := [.hs u 3, .agg [.int .i64 1, .int .i64 2, .int .i64 3, .int .i64 0]]) Ac.actV (run9_c F (.slice none 0 0) [] RowF.nil (by decide) ⟨0, 0, 0, 0⟩) rfl rfl (Ac.avs_den _) (fun _ _ => rfl)
      (K := fun G r => ∃ u', r = .hs u' 1 ∧ RowF G 5 (fun x us => us = Ac.sentV x) u' [⟨1, ⟨1, 2, 3, 4⟩⟩])
      fun G hG hr => (run9_c G u exA hr (by decide) ⟨1, 2, 3, 0⟩).fits fun r m' ⟨F', u', l', e, h1, h2, h3, h4⟩ => by
        rw [exA_run] at e
        subst e
        exact ⟨r, m', rfl, MemFits.eq rfl, F', h1, h3, u', h2, h4⟩
  simp only [exA, Ac.avs, Ac.A.av, List.flatMap_cons, List.flatMap_nil, List.cons_append, List.nil_append] at c0
  (repeat' (first | (with_reducible first|refine z0 ?_|refine z1 ?_|refine z2 ?_|refine z3 ?_|refine z4 ?_|refine z5 ?_|refine z6 ?_|refine z7 ?_|refine z8 ?_|refine z9 ?_|refine z10 ?_|refine z11 ?_|refine z12 ?_|refine z13 ?_|refine z14 ?_|refine z15 ?_|refine z16 ?_|refine z17 ?_|refine z18 ?_|refine z19 ?_|refine z20 ?_|refine z21 ?_|refine z22 ?_|refine z23 ?_|refine z24 ?_) | (((with_reducible first|refine z25 ?_|refine z26 ?_|refine z27 ?_|refine z28 ?_);intro K hK;(conv=>whnf))) | (with_reducible first|(refine hK _ _ ?_;clear hK K)|(refine hA ?_;clear hA hB A B)|(refine hB ?_;clear hA hB A B)|(refine hK _ ?_;clear hK K)) | ((with_reducible refine z29 ?_);intro A B hA hB;(conv=>whnf)) | (refine z30 (by decide) ?_) | ((first|refine z31 rfl ?_|refine z32 rfl ?_|refine z33 rfl ?_);intro K hK;(conv=>whnf)) | (refine z34 (by kernel_rfl) (by kernel_rfl) ?_) | (((with_reducible first|refine NV.quo ?s ?_|refine NV.rem ?s ?_|refine NV.i64 ?s ?_|refine NV.u32 ?s ?_|refine NV.u8 ?s ?_|refine NV.u64 ?s ?_);case s=>omega)<;>(conv=>whnf)) | ((with_reducible first|refine NV.divk ?_|refine NV.modk ?_|refine NN.lit ?_|refine NN.cast ?_|refine NN.a1 ?_|refine NN.a2 ?_|refine NN.a3 ?_|refine NN.a4 ?_|refine NN.a5 ?_|refine NN.a6 ?_|refine NV.keep ?_|refine NN.keep ?_|refine NS.keep ?_|refine NIf.not_ ?_)<;>(conv=>whnf)) | (((with_reducible refine NH.mk ?s ?_);case s=>(and_intros <;> first | with_reducible rfl | omega | assumption | exact Nat.le_of_ble_eq_true rfl | (simp only [List.length_append, List.length_cons, List.length_nil]; omega) | rfl))<;>(conv=>whnf)) | (((with_reducible refine NIf.decY ?s ?_);case s=>first|with_reducible rfl|assumption|omega)<;>(conv=>whnf)) | (((with_reducible refine NIf.decN ?s ?_);case s=>first|with_reducible rfl|assumption|omega)<;>(conv=>whnf)) | (((with_reducible refine NIf.yes ?s ?_);case s=>first|rfl|assumption)<;>(conv=>whnf)) | (((with_reducible refine NIf.no ?s ?_);case s=>first|rfl|assumption)<;>(conv=>whnf)) | (((with_reducible refine NLd.of (by with_reducible assumption) ?_))<;>(conv=>whnf)) | ((refine NFlat_iff.2 ⟨⟨?s1,?s2⟩,?_⟩;(case s1=>decide +kernel);(case s2=>decide +kernel))<;>(conv=>whnf)) | ((with_reducible first|refine NIf.dec (fun _=>?_) (fun _=>?_)|refine NIf.both (fun _=>?_) (fun _=>?_))<;>(conv=>whnf)) | ((intro _;skip)<;>(conv=>whnf))))
  (refine NCall.subw [0, 1] _ _ (c0 _) rfl (by decide) rfl ?_; rintro _ _ ⟨G, hle, hrow, rfl, u2, rfl, hru⟩; refine ⟨Nat.le_of_ble_eq_true rfl, _, rfl, ?_⟩; (conv=>whnf))
  have hF1 := hF.mono hle
  obtain ⟨e0, e1, e2, e3, e4⟩ := hru.get5 (k := 0) (by decide)
  have hok := hru.ok
  have c1 := fold9_c G _ exA hrow (by decide)
  simp only [exA, List.length_cons, List.length_nil] at c1
  (repeat' (first | (with_reducible first|refine z0 ?_|refine z1 ?_|refine z2 ?_|refine z3 ?_|refine z4 ?_|refine z5 ?_|refine z6 ?_|refine z7 ?_|refine z8 ?_|refine z9 ?_|refine z10 ?_|refine z11 ?_|refine z12 ?_|refine z13 ?_|refine z14 ?_|refine z15 ?_|refine z16 ?_|refine z17 ?_|refine z18 ?_|refine z19 ?_|refine z20 ?_|refine z21 ?_|refine z22 ?_|refine z23 ?_|refine z24 ?_) | (((with_reducible first|refine z25 ?_|refine z26 ?_|refine z27 ?_|refine z28 ?_);intro K hK;(conv=>whnf))) | (with_reducible first|(refine hK _ _ ?_;clear hK K)|(refine hA ?_;clear hA hB A B)|(refine hB ?_;clear hA hB A B)|(refine hK _ ?_;clear hK K)) | ((with_reducible refine z29 ?_);intro A B hA hB;(conv=>whnf)) | (refine z30 (by decide) ?_) | ((first|refine z31 rfl ?_|refine z32 rfl ?_|refine z33 rfl ?_);intro K hK;(conv=>whnf)) | (refine z34 (by kernel_rfl) (by kernel_rfl) ?_) | (((with_reducible first|refine NIf.yes ?s ?_);case s=>(simp ;done))<;>(conv=>whnf)) | (((with_reducible first|refine NIf.no ?s ?_);case s=>(simp ;done))<;>(conv=>whnf)) | (((with_reducible first|refine NV.quo ?s ?_|refine NV.rem ?s ?_|refine NV.i64 ?s ?_|refine NV.u32 ?s ?_|refine NV.u8 ?s ?_|refine NV.u64 ?s ?_);case s=>omega)<;>(conv=>whnf)) | ((with_reducible first|refine NV.divk ?_|refine NV.modk ?_|refine NN.lit ?_|refine NN.cast ?_|refine NN.a1 ?_|refine NN.a2 ?_|refine NN.a3 ?_|refine NN.a4 ?_|refine NN.a5 ?_|refine NN.a6 ?_|refine NV.keep ?_|refine NN.keep ?_|refine NS.keep ?_|refine NIf.not_ ?_)<;>(conv=>whnf)) | (((with_reducible refine NH.mk ?s ?_);case s=>(and_intros <;> first | with_reducible rfl | omega | assumption | exact Nat.le_of_ble_eq_true rfl | (simp only [List.length_append, List.length_cons, List.length_nil]; omega) | rfl))<;>(conv=>whnf)) | (((with_reducible refine NIf.decY ?s ?_);case s=>first|with_reducible rfl|assumption|omega)<;>(conv=>whnf)) | (((with_reducible refine NIf.decN ?s ?_);case s=>first|with_reducible rfl|assumption|omega)<;>(conv=>whnf)) | (((with_reducible refine NIf.yes ?s ?_);case s=>first|rfl|assumption)<;>(conv=>whnf)) | (((with_reducible refine NIf.no ?s ?_);case s=>first|rfl|assumption)<;>(conv=>whnf)) | (((with_reducible refine NLd.of (by with_reducible assumption) ?_))<;>(conv=>whnf)) | ((refine NFlat_iff.2 ⟨⟨?s1,?s2⟩,?_⟩;(case s1=>decide +kernel);(case s2=>decide +kernel))<;>(conv=>whnf)) | ((with_reducible first|refine NIf.dec (fun _=>?_) (fun _=>?_)|refine NIf.both (fun _=>?_) (fun _=>?_))<;>(conv=>whnf)) | ((intro _;skip)<;>(conv=>whnf))))
  (refine NCall.subw [0] _ _ (c1) rfl (by decide) rfl ?_; rintro _ _ ⟨G2, u3, l', hl', hle2, rfl, rfl, hrow3⟩; refine ⟨Nat.le_of_ble_eq_true rfl, _, rfl, ?_⟩; (conv=>whnf))
  have hl' : l' = exB := hl'.trans exA_fold
  subst hl'
  have hF2 := hF1.mono hle2
  have t1 := (text9_c G2 hF2 u3 exB hrow3 (by decide) exB_in exB_fields).val (congrArg AV.str exB_text)
  have r1 := (right9L_c G2 _ exA (hrow.mono hle2 fun _ _ h => h) (by decide) 2).val (congrArg AV.bool (show decide (Ac.okL 2 exA) = true by decide +kernel))
  have r2 := (right9L_c G2 _ exA (hrow.mono hle2 fun _ _ h => h) (by decide) 1).val (congrArg AV.bool (show decide (Ac.okL 1 exA) = false by decide +kernel))
  simp only [exA, exB, List.length_cons, List.length_nil] at t1 r1 r2
  (repeat' (first | (with_reducible first|refine z0 ?_|refine z1 ?_|refine z2 ?_|refine z3 ?_|refine z4 ?_|refine z5 ?_|refine z6 ?_|refine z7 ?_|refine z8 ?_|refine z9 ?_|refine z10 ?_|refine z11 ?_|refine z12 ?_|refine z13 ?_|refine z14 ?_|refine z15 ?_|refine z16 ?_|refine z17 ?_|refine z18 ?_|refine z19 ?_|refine z20 ?_|refine z21 ?_|refine z22 ?_|refine z23 ?_|refine z24 ?_) | (((with_reducible first|refine z25 ?_|refine z26 ?_|refine z27 ?_|refine z28 ?_);intro K hK;(conv=>whnf))) | (with_reducible first|(refine hK _ _ ?_;clear hK K)|(refine hA ?_;clear hA hB A B)|(refine hB ?_;clear hA hB A B)|(refine hK _ ?_;clear hK K)) | ((with_reducible refine z29 ?_);intro A B hA hB;(conv=>whnf)) | (refine z30 (by decide) ?_) | ((first|refine z31 rfl ?_|refine z32 rfl ?_|refine z33 rfl ?_);intro K hK;(conv=>whnf)) | (refine z34 (by kernel_rfl) (by kernel_rfl) ?_) | ((with_reducible refine NCall.isF 49 ?_); (refine NCall.subw [0] _ _ (t1) rfl (by decide) rfl ?_; rintro _ _ ⟨rfl, rfl⟩; refine ⟨Nat.le_of_ble_eq_true rfl, _, rfl, ?_⟩; (conv=>whnf))) | ((with_reducible refine NCall.isF 40 ?_); (refine NCall.subw [0] _ _ (r1) rfl (by decide) rfl ?_; rintro _ _ ⟨rfl, rfl⟩; refine ⟨Nat.le_of_ble_eq_true rfl, _, rfl, ?_⟩; (conv=>whnf))) | ((with_reducible refine NCall.isF 40 ?_); (refine NCall.subw [0] _ _ (r2) rfl (by decide) rfl ?_; rintro _ _ ⟨rfl, rfl⟩; refine ⟨Nat.le_of_ble_eq_true rfl, _, rfl, ?_⟩; (conv=>whnf))) | (((with_reducible first|refine NV.quo ?s ?_|refine NV.rem ?s ?_|refine NV.i64 ?s ?_|refine NV.u32 ?s ?_|refine NV.u8 ?s ?_|refine NV.u64 ?s ?_);case s=>omega)<;>(conv=>whnf)) | ((with_reducible first|refine NV.divk ?_|refine NV.modk ?_|refine NN.lit ?_|refine NN.cast ?_|refine NN.a1 ?_|refine NN.a2 ?_|refine NN.a3 ?_|refine NN.a4 ?_|refine NN.a5 ?_|refine NN.a6 ?_|refine NV.keep ?_|refine NN.keep ?_|refine NS.keep ?_|refine NIf.not_ ?_)<;>(conv=>whnf)) | (((with_reducible refine NH.mk ?s ?_);case s=>(and_intros <;> first | with_reducible rfl | omega | assumption | exact Nat.le_of_ble_eq_true rfl | (simp only [List.length_append, List.length_cons, List.length_nil]; omega) | rfl))<;>(conv=>whnf)) | (((with_reducible refine NIf.decY ?s ?_);case s=>first|with_reducible rfl|assumption|omega)<;>(conv=>whnf)) | (((with_reducible refine NIf.decN ?s ?_);case s=>first|with_reducible rfl|assumption|omega)<;>(conv=>whnf)) | (((with_reducible refine NIf.yes ?s ?_);case s=>first|rfl|assumption)<;>(conv=>whnf)) | (((with_reducible refine NIf.no ?s ?_);case s=>first|rfl|assumption)<;>(conv=>whnf)) | (((with_reducible refine NLd.of (by with_reducible assumption) ?_))<;>(conv=>whnf)) | ((refine NFlat_iff.2 ⟨⟨?s1,?s2⟩,?_⟩;(case s1=>decide +kernel);(case s2=>decide +kernel))<;>(conv=>whnf)) | ((with_reducible first|refine NIf.dec (fun _=>?_) (fun _=>?_)|refine NIf.both (fun _=>?_) (fun _=>?_))<;>(conv=>whnf)) | ((intro _;skip)<;>(conv=>whnf))))
  exact ⟨rfl, (MemFits.pre 1 rfl).trans (MemFits.less (hle.trans hle2) [])⟩
theorem awake9_c (F : Heap) (hF : TabF F) : NCall Tryd.prog 24 [] [hpB F] fun r m => r = .bool true ∧ m = [hpB F] :=
  (awake9_raw F hF).fits fun r m' h => ⟨r, _, rfl, h.2, h.1, rfl⟩
end Go.Proofs.YtokbckflleaplaaDoor
