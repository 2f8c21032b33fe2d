/-
  TraceOwn, the tied card: there are as many traces as Injected events, and later events change only the traces to which they belong: with an additional event, all other traces, and those that have ended, are unchanged.
  Conditions: those of the given statement (at most 100 events).
-/
import Derived.Test.YtniahabpedamcaaDoorTc15
import Derived.Test.YtniahabpedamcaaDoorRows
import Derived.ProofKit
import Derived.OpenShut
import Derived.ChangeOld
import Derived.Carry
import Derived.Test.YtniahabpedamcaaDoorCard
import Derived.Test.YtniahabpedamcaaDoorTie
import Derived.Test.YtniahabpedamcaaDoorCards
import Derived.SevenTiedAt
import Derived.LaidMore
import Derived.Stop.Joined
namespace Go.Proofs.YtniahabpedamcaaDoor.traceOwnRow
open Go.ChangeShapes Go.WideShapes Go.ChangeAt Go.RowKit Go.Sx
open Go.ChangeMaps (open_string shut_string)
theorem own : ownKnob Tryd.prog.godebug = none := by kernel_rfl
theorem laidOut : laidOutB Tryd.prog = true := by kernel_rfl
theorem fit_i64 {x : Int} (h : (Lit.int .i64 x).wf = true) : -9223372036854775808 ≤ x ∧ x ≤ 9223372036854775807 := by
  have e1 : IntKind.i64.min = -9223372036854775808 := by decide
  have e2 : IntKind.i64.max = 9223372036854775807 := by decide
  simp only [Lit.wf, e1, e2, Bool.and_eq_true, decide_eq_true_eq] at h
  exact h
theorem door_met (os : Os) (args : Array Value) : laidMetH Tryd.prog Rows.traceOwnRow.laid ((World.doorLaid Tryd.prog 400 os).forCall (fun _ _ => 0) ⟨#[], args, []⟩).memory :=
  laidMetH_of_parts3 (fuel := 8) (laidMet_of_run' 8 (by kernel_rfl) (by kernel_rfl)) (by kernel_rfl) (by kernel_rfl)
set_option maxRecDepth 100000 in
theorem lifted (os : Os) (started : os.Started) (H : Type) (enc : TypeId × Value → H) :
    ReturnsInHanded {} Tryd.checked os 4 .any (fun w args => (Rows.traceOwnSpec.pre enc Tryd.prog Tryd.f4 [] false w args ∧ laidMetH Tryd.prog Rows.traceOwnRow.laid w) ∧ sizedMet enc Tryd.prog Tryd.f4 (OpenSpec.ofChange Rows.traceOwnSpec) false w args) (Rows.traceOwnSpec.post enc Tryd.prog Tryd.f4 false true false false) := by
  refine returnsInHanded_of_change_and (C := Tryd.checked) (X := fun w _ => laidMetH Tryd.prog Rows.traceOwnRow.laid w) (fun _ _ _ hh h => h.of_heap hh) own started (by kernel_rfl) Tryd.func4
    (ChangeSpec.witness_shaped (enc := enc) (C := Tryd.checked) (os := os) (X := fun w _ => laidMetH Tryd.prog Rows.traceOwnRow.laid w) false (World.doorLaid Tryd.prog 400 os) #[.slice none 0 0, .agg #[.int .i64 0, .int .i64 0, .int .i64 0, .int .i64 0, .int .i64 0, .int .i64 0]] 8 rfl (World.shaped_of_RefB (by kernel_rfl) (by kernel_rfl)) (by kernel_rfl) (by kernel_rfl) (by kernel_rfl) (door_met os _)) ?_
  intro W base args ds gs before hval0 hW _ hZ hL _
  have hT : TabF (cellsW W) := tabF_of (by kernel_rfl) hL (by first | exact .head _ | exact .tail _ (.head _) | exact .tail _ (.tail _ (.head _)) | exact .tail _ (.tail _ (.tail _ (.head _))))
  have hval : ∀ (j : Nat) t v, Tryd.f4.params[j]? = some t → args[j]? = some v → Value.okWide Tryd.prog W .any base t v := hval0
  have hW' := hW
  obtain ⟨p, q, hA0, hV, rfl, hfz, hnd⟩ := hW
  have hA : DataW.TrodAll enc Tryd.prog W 0 (fun _ => true) true Tryd.f4.params.toList args.toList ds p := hA0
  rw [Tryd.params4] at hA hval
  obtain ⟨v0, vs0, d0, ds0, p0, q0, hargs, rfl, rfl, h0, t0⟩ := trodAll_cons hA
  obtain ⟨v1, vs1, d1, ds1, p1, q1, rfl, rfl, rfl, h1, t1⟩ := trodAll_cons t0
  obtain ⟨rfl, rfl, rfl⟩ := trodAll_nil t1
  obtain rfl : args = #[v0, v1] := by cases args; simp_all
  obtain ⟨rfl, rfl⟩ := trodVars_none hV
  have k0 := h0
  have lt0 : ∀ x ∈ p0, x.block < W.heap.size := by obtain ⟨m, hm⟩ := k0; exact DataW.trod_lt m _ _ _ hm
  have k1 := h1
  have lt1 : ∀ x ∈ p1, x.block < W.heap.size := by obtain ⟨m, hm⟩ := k1; exact DataW.trod_lt m _ _ _ hm
  obtain ⟨fuel0, hf0⟩ := h0
  obtain ⟨a0, len0, cap0, rfl⟩ := okWide_slice Tryd.underlying22 (hval 0 22 v0 rfl rfl)
  obtain ⟨_, v0', n0, hv0, ok0, n0le, el0⟩ := Sch.of_trod 9 _ (.sl (.pair (.int .i64) (.pair (.int .i64) (.pair (.int .i64) (.pair (.int .i64) (.pair (.int .i64) (.pair (.int .i64) .unit))))))) _ _ _ (by kernel_rfl) hf0
  obtain rfl : Value.slice a0 len0 cap0 = v0' := by simpa [Value.cells] using hv0
  obtain ⟨l0, hl0, row0, q0⟩ := rowF_of (α := Tc.E) (fun x vs => vs = Tc.E.V x) Tc.E.Ok ok0 el0 (by
    rintro cs ⟨_, _, rfl, _, ⟨x0_0, rfl, w0_0⟩, _, _, rfl, _, ⟨x0_1, rfl, w0_1⟩, _, _, rfl, _, ⟨x0_2, rfl, w0_2⟩, _, _, rfl, _, ⟨x0_3, rfl, w0_3⟩, _, _, rfl, _, ⟨x0_4, rfl, w0_4⟩, _, _, rfl, _, ⟨x0_5, rfl, w0_5⟩, rfl⟩
    exact ⟨⟨x0_0, x0_1, x0_2, x0_3, x0_4, x0_5⟩, rfl, ⟨fit_i64 w0_0, fit_i64 w0_1, fit_i64 w0_2, fit_i64 w0_3, fit_i64 w0_4, fit_i64 w0_5⟩⟩)
  subst hl0
  obtain ⟨fuel1, hf1⟩ := h1
  obtain ⟨cs1, hcs1, _⟩ : ∃ cs, v1 = .agg cs ∧ cs.size = Tryd.prog.cellsOf 41 := by
    have := hval 1 41 v1 rfl rfl
    simp only [Value.okWide, Tryd.underlying41] at this
    obtain ⟨cs, h1, h2, _⟩ := this
    exact ⟨cs, h1, h2⟩
  subst hcs1
  obtain ⟨_, hs1⟩ := Sch.of_trod 9 _ (.pair (.int .i64) (.pair (.int .i64) (.pair (.int .i64) (.pair (.int .i64) (.pair (.int .i64) (.pair (.int .i64) .unit)))))) _ _ _ (by kernel_rfl) hf1
  obtain ⟨cs1⟩ := cs1
  simp only [Value.cells] at hs1
  obtain ⟨_, _, rfl, _, ⟨x1_0, rfl, w1_0⟩, _, _, rfl, _, ⟨x1_1, rfl, w1_1⟩, _, _, rfl, _, ⟨x1_2, rfl, w1_2⟩, _, _, rfl, _, ⟨x1_3, rfl, w1_3⟩, _, _, rfl, _, ⟨x1_4, rfl, w1_4⟩, _, _, rfl, _, ⟨x1_5, rfl, w1_5⟩, rfl⟩ := hs1
  have r1_0 := fit_i64 w1_0
  have r1_1 := fit_i64 w1_1
  have r1_2 := fit_i64 w1_2
  have r1_3 := fit_i64 w1_3
  have r1_4 := fit_i64 w1_4
  have r1_5 := fit_i64 w1_5
  clear hA0 hval0
  have hc : NCall Tryd.prog 4 [.hs (.slice a0 len0 cap0) l0.length, .agg [.int .i64 x1_0, .int .i64 x1_1, .int .i64 x1_2, .int .i64 x1_3, .int .i64 x1_4, .int .i64 x1_5]] [hpB (cellsW W)] (fun r _ => r = .bool true) := (pown41_c _ hT _ l0 ⟨x1_0, x1_1, x1_2, x1_3, x1_4, x1_5⟩ row0)
  rw [NCall_iff] at hc
  have hc : Calls Tryd.prog 4 #[.slice a0 len0 cap0, .agg #[.int .i64 x1_0, .int .i64 x1_1, .int .i64 x1_2, .int .i64 x1_3, .int .i64 x1_4, .int .i64 x1_5]] W _ := hc.2 W (memOk_heap W)
  refine hc.mono fun e W' ⟨r, m', h, he, _, hf, _⟩ => ?_
  subst h
  subst he
  have bel := below_heap hf
  exact ⟨_, rfl, _, _, _, [], _, [], hW', trodAll_mk1 (shut_bool Tryd.underlying4 _), (trodAll_cons_mk (Below.trod laidOut (by kernel_rfl) (of_decide_eq_true (by kernel_rfl)) k0 bel lt0) (trodAll_cons_mk (Below.trod laidOut (by kernel_rfl) (of_decide_eq_true (by kernel_rfl)) k1 bel lt1) trodAll_mk0)), rfl, bel.frame _, fun h => by cases h⟩
theorem holds : Rows.TraceOwnSaid :=
  OpenClaim.holds_of_wide 4 Tryd.f4 rfl rfl rfl rfl rfl rfl rfl ⟨rfl, rfl, rfl, rfl, rfl⟩ rfl rfl rfl rfl rfl (by kernel_rfl) Tryd.func4 (by kernel_rfl)
    (of_decide_eq_true (by kernel_rfl)) (by unfold Func.isWrapper; first | (rw [if_pos (by decide +kernel)]; kernel_rfl) | (rw [if_neg (by decide +kernel)]; exact ⟨rfl, rfl⟩))
    (fun os started H enc _ => lifted os started H enc)
theorem card_holds : Rows.TraceOwnCardSaid :=
  Claim7.holds_tied_plain_at .later [] [.data, .data, .data] true (true, "299f47448379b0aeabaa69286bc646b25d729f2da20251cd03bd8082ecec7217") false
    holds (fun _ h => by cases h) (by kernel_rfl) (fun _ h => by cases h) traceOwn_row_tie rfl ⟨rfl, rfl⟩ (by kernel_rfl) rfl
    (fun f fn hf hfn => by
      obtain rfl : f = 4 := Option.some.inj ((show Tryd.prog.funcNamed "turnout/turnoutlaw41.TraceOwn" = some 4 by kernel_rfl).symm.trans hf) |>.symm
      obtain rfl : fn = Tryd.f4 := (Option.some.inj (Tryd.func4.symm.trans hfn)).symm
      exact ⟨by kernel_rfl, fun j t ht => by
        rw [Tryd.params4] at ht
        have hm : t ∈ [22, 41] := by simpa [or_assoc] using Array.mem_of_getElem? ht
        have hall : ([22, 41].all fun u => !Tryd.prog.wantsStandIn u) = true := by kernel_rfl
        exact (show Tryd.prog.wantsStandIn t = false by simpa using List.all_eq_true.1 hall t hm)⟩)
    (by kernel_rfl)
#print axioms card_holds
end Go.Proofs.YtniahabpedamcaaDoor.traceOwnRow
