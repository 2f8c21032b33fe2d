/-
  Conditions: the chapter's example; what is small.
-/
import Derived.Test.YtfolnkbkojjcbaaDoorPd8
import Derived.Test.YtfolnkbkojjcbaaDoorPd15
import Derived.Test.YtfolnkbkojjcbaaDoorPd17
namespace Go.Proofs.YtfolnkbkojjcbaaDoor
open Go.Sx
set_option maxRecDepth 20000
set_option linter.unusedSimpArgs false
set_option linter.unusedVariables false
set_option maxHeartbeats 4000000
set_option linter.unusedVariables false
namespace Pd
def exOne : T := .mk 3 1 1 []
def exTwo : T := .mk 3 1 2 []
def exOr : T := .mk 6 0 0 [exOne, exTwo]
def exN : T := .mk 4 0 0 [exOr]
def exPush : T := .mk 5 0 0 [.mk 4 0 0 [exOne], .mk 4 0 0 [exTwo]]
theorem ex_push : push exN false = exPush := (same_eq _ _).1 (by decide +kernel)
theorem ex_size : size exN = 4 := by decide +kernel
theorem ex_size2 : size exPush = 5 := by decide +kernel
theorem ex_fits : fits exN = true := by decide +kernel
theorem ex_fits2 : fits exPush = true := by decide +kernel
theorem ex_text : text exN = [110, 111, 116, 32, 40, 100, 115, 116, 32, 61, 32, 49, 32, 111, 114, 32, 100, 115, 116, 32, 61, 32, 50, 41] := by decide +kernel
theorem ex_text2 : text exPush = [110, 111, 116, 32, 100, 115, 116, 32, 61, 32, 49, 32, 97, 110, 100, 32, 110, 111, 116, 32, 100, 115, 116, 32, 61, 32, 50] := by decide +kernel
theorem ex_hits : hits ⟨0, 0, 0, 3, 0, 0⟩ exN = true := by decide +kernel
theorem ex_hits2 : hits ⟨0, 0, 0, 2, 0, 0⟩ exN = false := by decide +kernel
theorem ex_right : right exN = true := by decide +kernel
end Pd
theorem awake26_push (F : Heap) (b8 b10 : Nat) :
    NCall Tryd.prog 24 [.agg [.int .i64 4, .int .i64 0, .int .i64 0, .sl 4 (.slice (some ⟨b10, 0, none⟩) 1 1) 1]]
      [hpB F, ⟨⟨b8, 0, none⟩, [.int .i64 3, .int .i64 1, .int .i64 1, .raw (.slice none 0 0), .int .i64 3, .int .i64 1, .int .i64 2, .raw (.slice none 0 0)], .row (.slice (some ⟨b8, 0, none⟩) 2 2) 29 4 2⟩, ⟨⟨b10, 0, none⟩, [.int .i64 6, .int .i64 0, .int .i64 0, .sl 3 (.slice (some ⟨b8, 0, none⟩) 2 2) 2], .row (.slice (some ⟨b10, 0, none⟩) 1 1) 29 4 1⟩]
      fun r m => ∃ G u, F.le G ∧ Pd.Row G (.slice (some ⟨b10, 0, none⟩) 1 1) [Pd.exOr] ∧ Pd.Row G u Pd.exPush.l ∧ r = .agg [.int .i64 5, .int .i64 0, .int .i64 0, .hs u 2] ∧ m = [hpB G, hpB noHeap, hpB noHeap] := by
  generalize hw8 : Value.slice (some ⟨b8, 0, none⟩) 2 2 = w8
  generalize hw10 : Value.slice (some ⟨b10, 0, none⟩) 1 1 = w10
  have a8 : (⟨b8, 0, none⟩ : Addr) = addrOf w8 := by rw [← hw8]; rfl
  have a10 : (⟨b10, 0, none⟩ : Addr) = addrOf w10 := by rw [← hw10]; rfl
  rw [a8, a10]
  have h0 := Push26_c noHeap (.mk 1 0 0 []) (.slice none 0 0) (by decide +kernel) (by decide +kernel) RowF.nil
  refine NCall.when h0 fun ⟨W, hw⟩ => ?_
  have hok8 := (hw.row (List.mem_cons_of_mem _ (List.mem_cons_self ..))).1
  have hok10 := (hw.row (List.mem_cons_of_mem _ (List.mem_cons_of_mem _ (List.mem_singleton.2 rfl)))).1
  have e8 : denL [AV.int .i64 3, .int .i64 1, .int .i64 1, .raw (.slice none 0 0), .int .i64 3, .int .i64 1, .int .i64 2, .raw (.slice none 0 0)] = [(Pd.exOne, (Value.slice none 0 0)), (Pd.exTwo, .slice none 0 0)].flatMap Pd.psV := rfl
  have r8 := rowF_new (F := F) (sz := 4) (enc := Pd.psV) hok8 e8 (fun x _ => rfl)
  have p8 := Pd.row_of r8 fun p hp => by
    rcases List.mem_cons.1 hp with rfl | hp
    · exact RowF.nil
    · rw [List.mem_singleton.1 hp]; exact RowF.nil
  have e10 : denL [AV.int .i64 6, .int .i64 0, .int .i64 0, .sl 3 w8 2] = [(Pd.exOr, w8)].flatMap Pd.psV := rfl
  have r10 := rowF_new (F := addF F (addrOf w8) (denL [AV.int .i64 3, .int .i64 1, .int .i64 1, .raw (.slice none 0 0), .int .i64 3, .int .i64 1, .int .i64 2, .raw (.slice none 0 0)])) (sz := 4) (enc := Pd.psV) hok10 e10 (fun x _ => rfl)
  have p10 := Pd.row_of r10 fun p hp => by rw [List.mem_singleton.1 hp]; exact Pd.Row.mono addF.old p8
  have c := Push26_c _ Pd.exN w10 (by rw [Pd.ex_size]; decide) Pd.ex_fits p10
  rw [Pd.ex_push] at c
  refine (NCall.pre (args := [.agg [.int .i64 4, .int .i64 0, .int .i64 0, .sl 4 w10 1]]) c rfl ((MemFits.freeze (m := [_])).trans (MemFits.freeze (m := [])))).fits fun r m' hr => ?_
  obtain ⟨G, u, h1, h2, h3, rfl⟩ := hr
  exact ⟨r, _, rfl, ((MemFits.noHeap _).trans (MemFits.noHeap _)).trans (MemFits.pick [2, 0, 1] (by decide) rfl), G, u, (addF.old.trans addF.old).trans h1, Pd.Row.mono h1 p10, h2, h3, rfl⟩
theorem awake26_c (F : Heap) (hT : TabF F) : NCall Tryd.prog 8 [] [hpB F] fun r m => r = .bool true ∧ ∃ F', F.le F' ∧ m = [hpB F'] := by
  refine NCall.fits (K := fun r m => r = .bool true ∧ ∃ F', F.le F' ∧ MemFits m [hpB F']) ?_ fun r m' ⟨h1, F', h2, h3⟩ => ⟨r, _, rfl, h3, h1, F', h2, rfl⟩
  have t1 : ∀ G u, TabF G → Pd.Row G u Pd.exPush.l → NCall Tryd.prog 29 [.agg [.int .i64 5, .int .i64 0, .int .i64 0, .hs u 2]] [hpB G] fun r m => r = .str [110, 111, 116, 32, 100, 115, 116, 32, 61, 32, 49, 32, 97, 110, 100, 32, 110, 111, 116, 32, 100, 115, 116, 32, 61, 32, 50] ∧ m = [hpB G] := fun G u hT h => by
    have := text26_c G hT _ Pd.exPush u (Nat.le_refl _) (by rw [Pd.ex_size2]; decide) Pd.ex_fits2 h
    rw [Pd.ex_text2] at this
    exact this
  have t2 : ∀ G u, TabF G → Pd.Row G u [Pd.exOr] → NCall Tryd.prog 29 [.agg [.int .i64 4, .int .i64 0, .int .i64 0, .hs u 1]] [hpB G] fun r m => r = .str [110, 111, 116, 32, 40, 100, 115, 116, 32, 61, 32, 49, 32, 111, 114, 32, 100, 115, 116, 32, 61, 32, 50, 41] ∧ m = [hpB G] := fun G u hT h => by
    have := text26_c G hT _ Pd.exN u (Nat.le_refl _) (by rw [Pd.ex_size]; decide) Pd.ex_fits h
    rw [Pd.ex_text] at this
    exact this
  have g1 : ∀ G u, Pd.Row G u [Pd.exOr] → NCall Tryd.prog 9 [.agg [.int .i64 4, .int .i64 0, .int .i64 0, .hs u 1], .int .i64 0, .int .i64 0, .agg [.int .i64 0, .int .i64 3, .int .i64 0, .int .i64 0]] [hpB G] fun r m => r = .bool true ∧ m = [hpB G] := fun G u h => by
    have := Hits26_c G ⟨0, 0, 0, 3, 0, 0⟩ Pd.exN u (by rw [Pd.ex_size]; decide) h
    rw [Pd.ex_hits] at this
    exact this
  have g2 : ∀ G u, Pd.Row G u [Pd.exOr] → NCall Tryd.prog 9 [.agg [.int .i64 4, .int .i64 0, .int .i64 0, .hs u 1], .int .i64 0, .int .i64 0, .agg [.int .i64 0, .int .i64 2, .int .i64 0, .int .i64 0]] [hpB G] fun r m => r = .bool false ∧ m = [hpB G] := fun G u h => by
    have := Hits26_c G ⟨0, 0, 0, 2, 0, 0⟩ Pd.exN u (by rw [Pd.ex_size]; decide) h
    rw [Pd.ex_hits2] at this
    exact this
  have rt : ∀ G u, Pd.Row G u [Pd.exOr] → NCall Tryd.prog 10 [.agg [.int .i64 4, .int .i64 0, .int .i64 0, .hs u 1]] [hpB G] fun r m => r = .bool true ∧ m = [hpB G] := fun G u h => by
    have := right26_c G Pd.exN u (by rw [Pd.ex_size]; decide) h
    rw [Pd.ex_right] at this
    exact this
  refine ncall_of Tryd.func8 rfl (by decide) ?_
  (repeat' (first|(with_reducible first|(refine hK _ _ ?_;clear hK K)|(refine hA ?_;clear hA hB A B)|(refine hB ?_;clear hA hB A B)|(refine hK _ ?_;clear hK K))|((with_reducible refine gO ?_);(first|((with_reducible first|refine z25 ?_|refine z26 ?_);intro K hK;(conv=>whnf))|(with_reducible first|refine z0 ?_)))|((with_reducible refine gP ?_);(first|((with_reducible first|refine z27 ?_|refine z28 ?_);intro K hK;(conv=>whnf))|(with_reducible first|refine z24 ?_)))|((first|((with_reducible refine gV ?_);(first|((with_reducible first|refine NV.quo ?s ?_|refine NV.rem ?s ?_|refine NV.i64 ?s ?_|refine NV.u32 ?s ?_|refine NV.u8 ?s ?_|refine NV.u64 ?s ?_);case s=>omega)|(with_reducible first|refine NV.divk ?_|refine NV.modk ?_|refine NV.keep ?_)))|((with_reducible refine gI ?_);(first|(((with_reducible first|refine NIf.yes ?s ?_);case s=>(simp ;done)))|(((with_reducible first|refine NIf.no ?s ?_);case s=>(simp ;done)))|with_reducible refine NIf.not_ ?_|((with_reducible refine NIf.decY ?s ?_);case s=>first|with_reducible rfl|assumption|omega)|((with_reducible refine NIf.decN ?s ?_);case s=>first|with_reducible rfl|assumption|omega)|((with_reducible refine NIf.yes ?s ?_);case s=>first|rfl|assumption)|((with_reducible refine NIf.no ?s ?_);case s=>first|rfl|assumption)|(with_reducible first|refine NIf.dec (fun _=>?_) (fun _=>?_)|refine NIf.both (fun _=>?_) (fun _=>?_))))|((with_reducible refine gN ?_);(with_reducible first|refine NN.lit ?_|refine NN.cast ?_|refine NN.a1 ?_|refine NN.a2 ?_|refine NN.a3 ?_|refine NN.a4 ?_|refine NN.a5 ?_|refine NN.a6 ?_|refine NN.keep ?_))|((with_reducible refine gH ?_);((with_reducible refine NH.mk ?s ?_);case s=>(and_intros<;>first|with_reducible rfl|((with_reducible refine gOnes ?_);rfl)|((with_reducible refine gLen ?_);rfl)|omega|assumption|exact Nat.le_of_ble_eq_true rfl|(simp only [List.length_append, List.length_cons, List.length_nil]; omega)|rfl)))|((with_reducible refine gC ?_);(first|((with_reducible refine NCall.isF 24 ?_);refine NCall.subw [0, 3, 4] _ _ (awake26_push F _ _) rfl (by decide) rfl ?_; rintro _ _ ⟨G, u, hle, hp, hpp, rfl, rfl⟩; refine ⟨Nat.le_of_ble_eq_true rfl, _, rfl, ?_⟩)|((with_reducible refine NCall.isF 29 ?_);refine NCall.subE [0] (t1 G u (hT.mono hle) hpp) rfl (by decide) rfl rfl ?_)|((with_reducible refine NCall.isF 29 ?_);refine NCall.subE [0] (t2 G _ (hT.mono hle) hp) rfl (by decide) rfl rfl ?_)|((with_reducible refine NCall.isF 9 ?_);refine NCall.subE [0] (g1 G _ hp) rfl (by decide) rfl rfl ?_)|((with_reducible refine NCall.isF 9 ?_);refine NCall.subE [0] (g2 G _ hp) rfl (by decide) rfl rfl ?_)|((with_reducible refine NCall.isF 10 ?_);refine NCall.subE [0] (rt G _ hp) rfl (by decide) rfl rfl ?_)))|(with_reducible refine NS.keep ?_)|(with_reducible refine NLd.of (by with_reducible assumption) ?_))<;>(conv=>whnf))|((with_reducible refine gX ?_);(first|(with_reducible first|refine z3 ?_|refine z4 ?_|refine z5 ?_|refine z6 ?_|refine z7 ?_|refine z8 ?_|refine z14 ?_|refine z15 ?_)|((with_reducible refine z29 ?_);intro A B hA hB;(conv=>whnf))|(refine z34 (by kernel_rfl) (by kernel_rfl) ?_)))|(with_reducible first|refine z1 ?_|refine z2 ?_|refine z9 ?_|refine z10 ?_|refine z11 ?_|refine z12 ?_|refine z13 ?_|refine z16 ?_|refine z17 ?_|refine z18 ?_|refine z19 ?_|refine z20 ?_|refine z21 ?_|refine z22 ?_|refine z23 ?_)|((with_reducible refine gB ?_);(refine z30 (by decide) ?_))|((with_reducible refine gR ?_);((first|refine z31 rfl ?_|refine z32 rfl ?_);intro K hK;(conv=>whnf)))|((with_reducible refine gF ?_);((refine z33 rfl ?_);intro K hK;(conv=>whnf)))|((refine NFlat_iff.2 ⟨⟨?s1,?s2⟩,?_⟩;(case s1=>decide +kernel);(case s2=>decide +kernel))<;>(conv=>whnf))|((intro _;skip)<;>(conv=>whnf))))
  all_goals exact ⟨rfl, G, hle, MemFits.pre 1 rfl⟩
theorem small26_c (F : Heap) (p : Pd.T) (u : Value) (hs : Pd.size p ≤ 4611686018427387904) (hu : Pd.Row F u p.l) : NCall Tryd.prog 6 [.agg (Pd.cs p u)] [hpB F] fun r m => r = .bool (decide (Pd.size p ≤ 100)) ∧ m = [hpB F] := by
  refine NCall.fits (K := fun r m => r = .bool (decide (Pd.size p ≤ 100)) ∧ MemFits m [hpB F]) ?_ fun r m' h => ⟨r, _, rfl, h.2, h.1, rfl⟩
  have c := refsize26_c F _ p u (Nat.le_refl _) hs hu
  have hok := hu.ok
  generalize Pd.size p = n at *
  clear hu
  obtain ⟨k, f, v, l⟩ := p
  simp only [pd_cs, Pd.T.l] at *
  refine ncall_of Tryd.func6 rfl (by decide) ?_
  (repeat' (first|(with_reducible first|(refine hK _ _ ?_;clear hK K)|(refine hA ?_;clear hA hB A B)|(refine hB ?_;clear hA hB A B)|(refine hK _ ?_;clear hK K))|((with_reducible refine gO ?_);(first|((with_reducible first|refine z25 ?_|refine z26 ?_);intro K hK;(conv=>whnf))|(with_reducible first|refine z0 ?_)))|((with_reducible refine gP ?_);(first|((with_reducible first|refine z27 ?_|refine z28 ?_);intro K hK;(conv=>whnf))|(with_reducible first|refine z24 ?_)))|((first|((with_reducible refine gV ?_);(first|((with_reducible first|refine NV.quo ?s ?_|refine NV.rem ?s ?_|refine NV.i64 ?s ?_|refine NV.u32 ?s ?_|refine NV.u8 ?s ?_|refine NV.u64 ?s ?_);case s=>omega)|(with_reducible first|refine NV.divk ?_|refine NV.modk ?_|refine NV.keep ?_)))|((with_reducible refine gI ?_);(first|with_reducible refine NIf.not_ ?_|((with_reducible refine NIf.decY ?s ?_);case s=>first|with_reducible rfl|assumption|omega)|((with_reducible refine NIf.decN ?s ?_);case s=>first|with_reducible rfl|assumption|omega)|((with_reducible refine NIf.yes ?s ?_);case s=>first|rfl|assumption)|((with_reducible refine NIf.no ?s ?_);case s=>first|rfl|assumption)|(with_reducible first|refine NIf.dec (fun _=>?_) (fun _=>?_)|refine NIf.both (fun _=>?_) (fun _=>?_))))|((with_reducible refine gN ?_);(with_reducible first|refine NN.lit ?_|refine NN.cast ?_|refine NN.a1 ?_|refine NN.a2 ?_|refine NN.a3 ?_|refine NN.a4 ?_|refine NN.a5 ?_|refine NN.a6 ?_|refine NN.keep ?_))|((with_reducible refine gH ?_);((with_reducible refine NH.mk ?s ?_);case s=>(and_intros<;>first|with_reducible rfl|((with_reducible refine gOnes ?_);rfl)|((with_reducible refine gLen ?_);rfl)|omega|assumption|exact Nat.le_of_ble_eq_true rfl|(simp only [List.length_append, List.length_cons, List.length_nil]; omega)|rfl)))|((with_reducible refine gC ?_);((with_reducible refine NCall.isF 13 ?_);refine NCall.subE [0] (c) rfl (by decide) rfl rfl ?_))|(with_reducible refine NS.keep ?_)|(with_reducible refine NLd.of (by with_reducible assumption) ?_))<;>(conv=>whnf))|((with_reducible refine gX ?_);(first|(with_reducible first|refine z3 ?_|refine z4 ?_|refine z5 ?_|refine z6 ?_|refine z7 ?_|refine z8 ?_|refine z14 ?_|refine z15 ?_)|((with_reducible refine z29 ?_);intro A B hA hB;(conv=>whnf))|(refine z34 (by kernel_rfl) (by kernel_rfl) ?_)))|(with_reducible first|refine z1 ?_|refine z2 ?_|refine z9 ?_|refine z10 ?_|refine z11 ?_|refine z12 ?_|refine z13 ?_|refine z16 ?_|refine z17 ?_|refine z18 ?_|refine z19 ?_|refine z20 ?_|refine z21 ?_|refine z22 ?_|refine z23 ?_)|((with_reducible refine gB ?_);(refine z30 (by decide) ?_))|((with_reducible refine gR ?_);((first|refine z31 rfl ?_|refine z32 rfl ?_);intro K hK;(conv=>whnf)))|((with_reducible refine gF ?_);((refine z33 rfl ?_);intro K hK;(conv=>whnf)))|((refine NFlat_iff.2 ⟨⟨?s1,?s2⟩,?_⟩;(case s1=>decide +kernel);(case s2=>decide +kernel))<;>(conv=>whnf))|((intro _;skip)<;>(conv=>whnf))))
  all_goals exact ⟨by congr 1; simp; omega, MemFits.pre 1 rfl⟩
end Go.Proofs.YtfolnkbkojjcbaaDoor

