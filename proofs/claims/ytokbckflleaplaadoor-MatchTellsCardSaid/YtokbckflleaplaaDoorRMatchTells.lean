/-
  The row of MatchTells: the contract joined to the statement.
-/
import Derived.Test.YtokbckflleaplaaDoorMt15
import Derived.Test.YtokbckflleaplaaDoorRows
import Derived.ProofKit
import Derived.OpenShut
import Derived.ChangeOld
import Derived.Carry
import Derived.Test.YtokbckflleaplaaDoorCard
import Derived.Test.YtokbckflleaplaaDoorTie
import Derived.Test.YtokbckflleaplaaDoorCards
import Derived.SevenTiedAt
import Derived.LaidMore
import Derived.Stop.Joined
namespace Go.Proofs.YtokbckflleaplaaDoor.matchTellsRow
open Go.ChangeShapes Go.WideShapes Go.ChangeAt Go.RowKit Go.Sx
open Go.ChangeMaps (open_string shut_string)
theorem own : ownKnob Tryd.prog.godebug = none := by kernel_rfl
theorem laidOut : laidOutB Tryd.prog = true := by kernel_rfl
theorem fit_i64 {x : Int} (h : (Lit.int .i64 x).wf = true) : -9223372036854775808 ≤ x ∧ x ≤ 9223372036854775807 := by
  have e1 : IntKind.i64.min = -9223372036854775808 := by decide
  have e2 : IntKind.i64.max = 9223372036854775807 := by decide
  simp only [Lit.wf, e1, e2, Bool.and_eq_true, decide_eq_true_eq] at h
  exact h
theorem door_met (os : Os) (args : Array Value) : laidMetH Tryd.prog Rows.matchTellsRow.laid ((World.doorLaid Tryd.prog 400 os).forCall (fun _ _ => 0) ⟨#[], args, []⟩).memory :=
  laidMetH_of_parts3 (fuel := 8) (laidMet_of_run' 8 (by kernel_rfl) (by kernel_rfl)) (by kernel_rfl) (by kernel_rfl)
set_option maxRecDepth 100000 in
theorem lifted (os : Os) (started : os.Started) (H : Type) (enc : TypeId × Value → H) :
    ReturnsInHanded {} Tryd.checked os 6 .any (fun w args => (Rows.matchTellsSpec.pre enc Tryd.prog Tryd.f6 [] false w args ∧ laidMetH Tryd.prog Rows.matchTellsRow.laid w) ∧ sizedMet enc Tryd.prog Tryd.f6 (OpenSpec.ofChange Rows.matchTellsSpec) false w args) (Rows.matchTellsSpec.post enc Tryd.prog Tryd.f6 false true false false) := by
  refine returnsInHanded_of_change_and (C := Tryd.checked) (X := fun w _ => laidMetH Tryd.prog Rows.matchTellsRow.laid w) (fun _ _ _ hh h => h.of_heap hh) own started (by kernel_rfl) Tryd.func6
    (ChangeSpec.witness_shaped (enc := enc) (C := Tryd.checked) (os := os) (X := fun w _ => laidMetH Tryd.prog Rows.matchTellsRow.laid w) false (World.doorLaid Tryd.prog 400 os) #[.agg #[.int .i64 0, .int .i64 0, .int .i64 0, .int .i64 0, .int .i64 0, .int .i64 0, .int .i64 0, .int .i64 0, .int .i64 0], .agg #[.int .i64 0, .int .i64 0, .int .i64 0, .int .i64 0, .int .i64 0, .int .i64 0, .int .i64 0, .int .i64 0, .int .i64 0], .int .i64 0, .agg #[.int .i64 0, .int .i64 0, .int .i64 0, .int .i64 0], .int .i64 0, .int .i64 0] 8 rfl (World.shaped_of_RefB (by kernel_rfl) (by kernel_rfl)) (by kernel_rfl) (by kernel_rfl) (by kernel_rfl) (door_met os _)) ?_
  intro W base args ds gs before hval0 hW _ _ hL _
  have hT : TabF (cellsW W) := tabF_of (by kernel_rfl) hL (by first | exact .head _ | exact .tail _ (.head _) | exact .tail _ (.tail _ (.head _)) | exact .tail _ (.tail _ (.tail _ (.head _))))
  have hval : ∀ (j : Nat) t v, Tryd.f6.params[j]? = some t → args[j]? = some v → Value.okWide Tryd.prog W .any base t v := hval0
  have hW' := hW
  obtain ⟨p, q, hA0, hV, rfl, hfz, hnd⟩ := hW
  have hA : DataW.TrodAll enc Tryd.prog W 0 (fun _ => true) true Tryd.f6.params.toList args.toList ds p := hA0
  rw [Tryd.params6] at hA hval
  obtain ⟨v0, vs0, d0, ds0, p0, q0, hargs, rfl, rfl, h0, t0⟩ := trodAll_cons hA
  obtain ⟨v1, vs1, d1, ds1, p1, q1, rfl, rfl, rfl, h1, t1⟩ := trodAll_cons t0
  obtain ⟨v2, vs2, d2, ds2, p2, q2, rfl, rfl, rfl, h2, t2⟩ := trodAll_cons t1
  obtain ⟨v3, vs3, d3, ds3, p3, q3, rfl, rfl, rfl, h3, t3⟩ := trodAll_cons t2
  obtain ⟨v4, vs4, d4, ds4, p4, q4, rfl, rfl, rfl, h4, t4⟩ := trodAll_cons t3
  obtain ⟨v5, vs5, d5, ds5, p5, q5, rfl, rfl, rfl, h5, t5⟩ := trodAll_cons t4
  obtain ⟨rfl, rfl, rfl⟩ := trodAll_nil t5
  obtain rfl : args = #[v0, v1, v2, v3, v4, v5] := by cases args; simp_all
  obtain ⟨rfl, rfl⟩ := trodVars_none hV
  have k0 := h0
  have lt0 : ∀ x ∈ p0, x.block < W.heap.size := by obtain ⟨m, hm⟩ := k0; exact DataW.trod_lt m _ _ _ hm
  have k1 := h1
  have lt1 : ∀ x ∈ p1, x.block < W.heap.size := by obtain ⟨m, hm⟩ := k1; exact DataW.trod_lt m _ _ _ hm
  have k2 := h2
  have lt2 : ∀ x ∈ p2, x.block < W.heap.size := by obtain ⟨m, hm⟩ := k2; exact DataW.trod_lt m _ _ _ hm
  have k3 := h3
  have lt3 : ∀ x ∈ p3, x.block < W.heap.size := by obtain ⟨m, hm⟩ := k3; exact DataW.trod_lt m _ _ _ hm
  have k4 := h4
  have lt4 : ∀ x ∈ p4, x.block < W.heap.size := by obtain ⟨m, hm⟩ := k4; exact DataW.trod_lt m _ _ _ hm
  have k5 := h5
  have lt5 : ∀ x ∈ p5, x.block < W.heap.size := by obtain ⟨m, hm⟩ := k5; exact DataW.trod_lt m _ _ _ hm
  obtain ⟨fuel0, hf0⟩ := h0
  obtain ⟨cs0, hcs0, _⟩ : ∃ cs, v0 = .agg cs ∧ cs.size = Tryd.prog.cellsOf 24 := by
    have := hval 0 24 v0 rfl rfl
    simp only [Value.okWide, Tryd.underlying24] at this
    obtain ⟨cs, h1, h2, _⟩ := this
    exact ⟨cs, h1, h2⟩
  subst hcs0
  obtain ⟨_, hs0⟩ := Sch.of_trod 9 _ (.pair (.int .i64) (.pair (.pair (.int .i64) (.pair (.int .i64) (.pair (.int .i64) (.pair (.int .i64) .unit)))) (.pair (.pair (.int .i64) (.pair (.int .i64) (.pair (.int .i64) (.pair (.int .i64) .unit)))) .unit))) _ _ _ (by kernel_rfl) hf0
  obtain ⟨cs0⟩ := cs0
  simp only [Value.cells] at hs0
  obtain ⟨_, _, rfl, _, ⟨x0_0, rfl, w0_0⟩, _, _, rfl, _, ⟨_, _, rfl, _, ⟨x0_1, rfl, w0_1⟩, _, _, rfl, _, ⟨x0_2, rfl, w0_2⟩, _, _, rfl, _, ⟨x0_3, rfl, w0_3⟩, _, _, rfl, _, ⟨x0_4, rfl, w0_4⟩, rfl⟩, _, _, rfl, _, ⟨_, _, rfl, _, ⟨x0_5, rfl, w0_5⟩, _, _, rfl, _, ⟨x0_6, rfl, w0_6⟩, _, _, rfl, _, ⟨x0_7, rfl, w0_7⟩, _, _, rfl, _, ⟨x0_8, rfl, w0_8⟩, rfl⟩, rfl⟩ := hs0
  have r0_0 := fit_i64 w0_0
  have r0_1 := fit_i64 w0_1
  have r0_2 := fit_i64 w0_2
  have r0_3 := fit_i64 w0_3
  have r0_4 := fit_i64 w0_4
  have r0_5 := fit_i64 w0_5
  have r0_6 := fit_i64 w0_6
  have r0_7 := fit_i64 w0_7
  have r0_8 := fit_i64 w0_8
  obtain ⟨fuel1, hf1⟩ := h1
  obtain ⟨cs1, hcs1, _⟩ : ∃ cs, v1 = .agg cs ∧ cs.size = Tryd.prog.cellsOf 24 := by
    have := hval 1 24 v1 rfl rfl
    simp only [Value.okWide, Tryd.underlying24] at this
    obtain ⟨cs, h1, h2, _⟩ := this
    exact ⟨cs, h1, h2⟩
  subst hcs1
  obtain ⟨_, hs1⟩ := Sch.of_trod 9 _ (.pair (.int .i64) (.pair (.pair (.int .i64) (.pair (.int .i64) (.pair (.int .i64) (.pair (.int .i64) .unit)))) (.pair (.pair (.int .i64) (.pair (.int .i64) (.pair (.int .i64) (.pair (.int .i64) .unit)))) .unit))) _ _ _ (by kernel_rfl) hf1
  obtain ⟨cs1⟩ := cs1
  simp only [Value.cells] at hs1
  obtain ⟨_, _, rfl, _, ⟨x1_0, rfl, w1_0⟩, _, _, rfl, _, ⟨_, _, rfl, _, ⟨x1_1, rfl, w1_1⟩, _, _, rfl, _, ⟨x1_2, rfl, w1_2⟩, _, _, rfl, _, ⟨x1_3, rfl, w1_3⟩, _, _, rfl, _, ⟨x1_4, rfl, w1_4⟩, rfl⟩, _, _, rfl, _, ⟨_, _, rfl, _, ⟨x1_5, rfl, w1_5⟩, _, _, rfl, _, ⟨x1_6, rfl, w1_6⟩, _, _, rfl, _, ⟨x1_7, rfl, w1_7⟩, _, _, rfl, _, ⟨x1_8, rfl, w1_8⟩, rfl⟩, rfl⟩ := hs1
  have r1_0 := fit_i64 w1_0
  have r1_1 := fit_i64 w1_1
  have r1_2 := fit_i64 w1_2
  have r1_3 := fit_i64 w1_3
  have r1_4 := fit_i64 w1_4
  have r1_5 := fit_i64 w1_5
  have r1_6 := fit_i64 w1_6
  have r1_7 := fit_i64 w1_7
  have r1_8 := fit_i64 w1_8
  obtain ⟨x2, rfl, rfl, rfl, w2⟩ := open_int Tryd.underlying3 (hval 2 3 v2 rfl rfl) h2
  have r2 := fit_i64 w2
  obtain ⟨fuel3, hf3⟩ := h3
  obtain ⟨cs3, hcs3, _⟩ : ∃ cs, v3 = .agg cs ∧ cs.size = Tryd.prog.cellsOf 25 := by
    have := hval 3 25 v3 rfl rfl
    simp only [Value.okWide, Tryd.underlying25] at this
    obtain ⟨cs, h1, h2, _⟩ := this
    exact ⟨cs, h1, h2⟩
  subst hcs3
  obtain ⟨_, hs3⟩ := Sch.of_trod 9 _ (.pair (.int .i64) (.pair (.int .i64) (.pair (.int .i64) (.pair (.int .i64) .unit)))) _ _ _ (by kernel_rfl) hf3
  obtain ⟨cs3⟩ := cs3
  simp only [Value.cells] at hs3
  obtain ⟨_, _, rfl, _, ⟨x3_0, rfl, w3_0⟩, _, _, rfl, _, ⟨x3_1, rfl, w3_1⟩, _, _, rfl, _, ⟨x3_2, rfl, w3_2⟩, _, _, rfl, _, ⟨x3_3, rfl, w3_3⟩, rfl⟩ := hs3
  have r3_0 := fit_i64 w3_0
  have r3_1 := fit_i64 w3_1
  have r3_2 := fit_i64 w3_2
  have r3_3 := fit_i64 w3_3
  obtain ⟨x4, rfl, rfl, rfl, w4⟩ := open_int Tryd.underlying3 (hval 4 3 v4 rfl rfl) h4
  have r4 := fit_i64 w4
  obtain ⟨x5, rfl, rfl, rfl, w5⟩ := open_int Tryd.underlying3 (hval 5 3 v5 rfl rfl) h5
  have r5 := fit_i64 w5
  clear hA0 hval0
  have hc : NCall Tryd.prog 6 [.agg [.int .i64 x0_0, .int .i64 x0_1, .int .i64 x0_2, .int .i64 x0_3, .int .i64 x0_4, .int .i64 x0_5, .int .i64 x0_6, .int .i64 x0_7, .int .i64 x0_8], .agg [.int .i64 x1_0, .int .i64 x1_1, .int .i64 x1_2, .int .i64 x1_3, .int .i64 x1_4, .int .i64 x1_5, .int .i64 x1_6, .int .i64 x1_7, .int .i64 x1_8], .int .i64 x2, .agg [.int .i64 x3_0, .int .i64 x3_1, .int .i64 x3_2, .int .i64 x3_3], .int .i64 x4, .int .i64 x5] [hpB (cellsW W)] (fun r _ => r = .bool true) := matchTells_c _ hT ⟨x0_0, x0_1, x0_2, x0_3, x0_4, x0_5, x0_6, x0_7, x0_8⟩ ⟨x1_0, x1_1, x1_2, x1_3, x1_4, x1_5, x1_6, x1_7, x1_8⟩ x2 x3_0 x3_1 x3_2 x3_3 x4 x5 (in64_of r0_0 r0_1 r0_2 r0_3 r0_4 r0_5 r0_6 r0_7 r0_8) (in64_of r1_0 r1_1 r1_2 r1_3 r1_4 r1_5 r1_6 r1_7 r1_8)
  rw [NCall_iff] at hc
  have hc : Calls Tryd.prog 6 #[.agg #[.int .i64 x0_0, .int .i64 x0_1, .int .i64 x0_2, .int .i64 x0_3, .int .i64 x0_4, .int .i64 x0_5, .int .i64 x0_6, .int .i64 x0_7, .int .i64 x0_8], .agg #[.int .i64 x1_0, .int .i64 x1_1, .int .i64 x1_2, .int .i64 x1_3, .int .i64 x1_4, .int .i64 x1_5, .int .i64 x1_6, .int .i64 x1_7, .int .i64 x1_8], .int .i64 x2, .agg #[.int .i64 x3_0, .int .i64 x3_1, .int .i64 x3_2, .int .i64 x3_3], .int .i64 x4, .int .i64 x5] W _ := hc.2 W (memOk_heap W)
  refine hc.mono fun e W' ⟨r, m', h, he, _, hf, _⟩ => ?_
  subst h
  subst he
  have bel := below_heap hf
  exact ⟨_, rfl, _, _, _, [], _, [], hW', trodAll_mk1 (shut_bool Tryd.underlying4 _), (trodAll_cons_mk (Below.trod laidOut (by kernel_rfl) (of_decide_eq_true (by kernel_rfl)) k0 bel lt0) (trodAll_cons_mk (Below.trod laidOut (by kernel_rfl) (of_decide_eq_true (by kernel_rfl)) k1 bel lt1) (trodAll_cons_mk (Below.trod laidOut (by kernel_rfl) (of_decide_eq_true (by kernel_rfl)) k2 bel lt2) (trodAll_cons_mk (Below.trod laidOut (by kernel_rfl) (of_decide_eq_true (by kernel_rfl)) k3 bel lt3) (trodAll_cons_mk (Below.trod laidOut (by kernel_rfl) (of_decide_eq_true (by kernel_rfl)) k4 bel lt4) (trodAll_cons_mk (Below.trod laidOut (by kernel_rfl) (of_decide_eq_true (by kernel_rfl)) k5 bel lt5) trodAll_mk0)))))), rfl, bel.frame _, fun h => by cases h⟩
theorem holds : Rows.MatchTellsSaid :=
  OpenClaim.holds_of_wide 6 Tryd.f6 rfl rfl rfl rfl rfl rfl rfl ⟨rfl, rfl, rfl, rfl, rfl⟩ rfl rfl rfl rfl rfl (by kernel_rfl) Tryd.func6 (by kernel_rfl)
    (of_decide_eq_true (by kernel_rfl)) (by unfold Func.isWrapper; first | (rw [if_pos (by decide +kernel)]; kernel_rfl) | (rw [if_neg (by decide +kernel)]; exact ⟨rfl, rfl⟩))
    (fun os started H enc _ => lifted os started H enc)
theorem card_holds : Rows.MatchTellsCardSaid :=
  Claim7.holds_tied_plain_at .later [] [.data, .data, .data] true (true, "dc7fdafea0345ecb9dbc93dc0842cfac1d7ff671708f20a22a7b1718d61d2141") true
    holds (fun _ h => by cases h) (by kernel_rfl) (fun _ h => by cases h) matchTells_row_tie rfl ⟨rfl, rfl⟩ (by kernel_rfl) rfl
    (fun f fn hf hfn => by
      obtain rfl : f = 6 := Option.some.inj ((show Tryd.prog.funcNamed "turnout/turnoutlaw08.MatchTells" = some 6 by kernel_rfl).symm.trans hf) |>.symm
      obtain rfl : fn = Tryd.f6 := (Option.some.inj (Tryd.func6.symm.trans hfn)).symm
      exact ⟨by kernel_rfl, fun j t ht => by
        rw [Tryd.params6] at ht
        have hm : t ∈ [24, 24, 3, 25, 3, 3] := by simpa [or_assoc] using Array.mem_of_getElem? ht
        have hall : ([24, 24, 3, 25, 3, 3].all fun u => !Tryd.prog.wantsStandIn u) = true := by kernel_rfl
        exact (show Tryd.prog.wantsStandIn t = false by simpa using List.all_eq_true.1 hall t hm)⟩)
    (by kernel_rfl)
#print axioms card_holds
end Go.Proofs.YtokbckflleaplaaDoor.matchTellsRow
