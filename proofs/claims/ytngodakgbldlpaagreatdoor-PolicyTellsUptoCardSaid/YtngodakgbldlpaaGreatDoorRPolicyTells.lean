/-
  PolicyTells, the tied card in its second form: Right, Size, Deep and Wide return the results of the reference, and for valid policies also Run, Values and Text.
  Conditions: those of the given statement (at most 150 policies and conditions; what the arguments reach is of bulk at most 1048576).
-/
import Derived.Test.YtngodakgbldlpaaGreatDoorJ37
import Derived.Test.YtngodakgbldlpaaGreatDoorJ38
import Derived.Test.YtngodakgbldlpaaGreatDoorRows
import Derived.ProofKit
import Derived.OpenShut
import Derived.ChangeOld
import Derived.Carry
import Derived.Test.YtngodakgbldlpaaGreatDoorCard
import Derived.Test.YtngodakgbldlpaaGreatDoorTie
import Derived.Test.YtngodakgbldlpaaGreatDoorCards
import Derived.SevenTiedAt
import Derived.LaidMore
import Derived.Stop.Joined
import Derived.Deep.DeepWitnessRowRef
namespace Go.Proofs.YtngodakgbldlpaaGreatDoor.policyTellsRow
open Go.ChangeShapes Go.WideShapes Go.ChangeAt Go.RowKit Go.Sx
open Go.ChangeMaps (open_string shut_string)
theorem own : ownKnob Tryz.prog.godebug = none := by kernel_rfl
theorem laidOut : laidOutB Tryz.prog = true := by kernel_rfl
theorem fit_i64 {x : Int} (h : (Lit.int .i64 x).wf = true) : -9223372036854775808 ≤ x ∧ x ≤ 9223372036854775807 := by
  have e1 : IntKind.i64.min = -9223372036854775808 := by decide
  have e2 : IntKind.i64.max = 9223372036854775807 := by decide
  simp only [Lit.wf, e1, e2, Bool.and_eq_true, decide_eq_true_eq] at h
  exact h
theorem door_met (os : Os) (args : Array Value) : laidMetH Tryz.prog Rows.policyTellsUptoRow.laid ((World.doorLaid Tryz.prog 400 os).forCall (fun _ _ => 0) ⟨#[], args, []⟩).memory :=
  laidMetH_of_parts3 (fuel := 8) (laidMet_of_run' 8 (by kernel_rfl) (by kernel_rfl)) (by kernel_rfl) (by kernel_rfl)
theorem reads (os : Os) {H : Type} (enc : TypeId × Value → H) : DataW.whole enc Tryz.prog ((World.doorLaid Tryz.prog 400 os).forCall (fun _ _ => 0) ⟨#[], #[.agg #[.int .i64 0, .int .i64 0, .int .i64 0, .int .i64 0, .slice none 0 0, .int .i64 0, .int .i64 0, .slice none 0 0], .agg #[.int .i64 0, .int .i64 0, .int .i64 0, .int .i64 0, .slice none 0 0, .int .i64 0, .int .i64 0, .slice none 0 0], .int .i64 0, .int .i64 0, .agg #[.int .i64 0, .int .i64 0, .int .i64 0, .int .i64 0], .int .i64 0], []⟩).memory Tryz.f5.params.toList Rows.policyTellsSpec.vars false (#[.agg #[.int .i64 0, .int .i64 0, .int .i64 0, .int .i64 0, .slice none 0 0, .int .i64 0, .int .i64 0, .slice none 0 0], .agg #[.int .i64 0, .int .i64 0, .int .i64 0, .int .i64 0, .slice none 0 0, .int .i64 0, .int .i64 0, .slice none 0 0], .int .i64 0, .int .i64 0, .agg #[.int .i64 0, .int .i64 0, .int .i64 0, .int .i64 0], .int .i64 0] : Array Value).toList 8 = some ([.agg [.lit (.int .i64 0), .agg [.lit (.int .i64 0), .lit (.int .i64 0), .lit (.int .i64 0), .nil], .lit (.int .i64 0), .lit (.int .i64 0), .nil], .agg [.lit (.int .i64 0), .agg [.lit (.int .i64 0), .lit (.int .i64 0), .lit (.int .i64 0), .nil], .lit (.int .i64 0), .lit (.int .i64 0), .nil], .lit (.int .i64 0), .lit (.int .i64 0), .agg [.lit (.int .i64 0), .lit (.int .i64 0), .lit (.int .i64 0), .lit (.int .i64 0)], .lit (.int .i64 0)], [], []) := by kernel_rfl
set_option maxRecDepth 100000 in
theorem lifted (os : Os) (started : os.Started) (H : Type) (enc : TypeId × Value → H) (F : Stop.Interp) :
    ReturnsInHanded {} Tryz.checked os 5 .any ((Rows.OpenSpec.upto Rows.policyTellsSpec).preRow enc Tryz.prog Tryz.f5 Rows.policyTellsUptoRow.domain false Rows.policyTellsUptoRow.laid) (((Rows.OpenSpec.upto Rows.policyTellsSpec).at F).post enc Tryz.prog Tryz.f5 false true false false) := by
  refine returnsInHanded_of_row (C := Tryz.checked) (s := Rows.OpenSpec.upto Rows.policyTellsSpec) own started (by kernel_rfl) Tryz.func5
    (witness_row_atRef (enc := enc) (C := Tryz.checked) false (World.doorLaid Tryz.prog 400 os) #[.agg #[.int .i64 0, .int .i64 0, .int .i64 0, .int .i64 0, .slice none 0 0, .int .i64 0, .int .i64 0, .slice none 0 0], .agg #[.int .i64 0, .int .i64 0, .int .i64 0, .int .i64 0, .slice none 0 0, .int .i64 0, .int .i64 0, .slice none 0 0], .int .i64 0, .int .i64 0, .agg #[.int .i64 0, .int .i64 0, .int .i64 0, .int .i64 0], .int .i64 0] rfl (by kernel_rfl) (by kernel_rfl) (by kernel_rfl)
      (OpenSpec.preRow_of_cond 8 (reads os enc) (by kernel_rfl) (fun k hk => by cases hk; kernel_rfl) (by kernel_rfl) (door_met os _))) ?_
  intro W base args ds gs before hval0 hW _ hcond hZ hL _ _
  show Calls Tryz.prog 5 args W fun e W' => ∃ v, e = .returned v ∧ Rows.policyTellsSpec.post enc Tryz.prog Tryz.f5 false true false false W args v W'
  have hk := hcond _ rfl
  have hb : Rows.uptoBulkAll (ds ++ gs) ≤ 1048576 := of_decide_eq_true hk
  have hT : TabF (cellsW W) := tabF_of (by kernel_rfl) hL (by first | exact .head _ | exact .tail _ (.head _) | exact .tail _ (.tail _ (.head _)) | exact .tail _ (.tail _ (.tail _ (.head _))))
  have hval : ∀ (j : Nat) t v, Tryz.f5.params[j]? = some t → args[j]? = some v → Value.okWide Tryz.prog W .any base t v := hval0
  have hW' := hW
  obtain ⟨p, q, hA0, hV, rfl, hfz, hnd⟩ := hW
  have hA : DataW.TrodAll enc Tryz.prog W 0 (fun _ => true) true Tryz.f5.params.toList args.toList ds p := hA0
  rw [Tryz.params5] at hA hval
  obtain ⟨v0, vs0, d0, ds0, p0, q0, hargs, rfl, rfl, h0, t0⟩ := trodAll_cons hA
  obtain ⟨v1, vs1, d1, ds1, p1, q1, rfl, rfl, rfl, h1, t1⟩ := trodAll_cons t0
  obtain ⟨v2, vs2, d2, ds2, p2, q2, rfl, rfl, rfl, h2, t2⟩ := trodAll_cons t1
  obtain ⟨v3, vs3, d3, ds3, p3, q3, rfl, rfl, rfl, h3, t3⟩ := trodAll_cons t2
  obtain ⟨v4, vs4, d4, ds4, p4, q4, rfl, rfl, rfl, h4, t4⟩ := trodAll_cons t3
  obtain ⟨v5, vs5, d5, ds5, p5, q5, rfl, rfl, rfl, h5, t5⟩ := trodAll_cons t4
  obtain ⟨rfl, rfl, rfl⟩ := trodAll_nil t5
  obtain rfl : args = #[v0, v1, v2, v3, v4, v5] := by cases args; simp_all
  obtain ⟨rfl, rfl⟩ := trodVars_none hV
  simp only [List.append_nil, Rows.uptoBulkAll] at hb
  have k0 := h0
  have lt0 : ∀ x ∈ p0, x.block < W.heap.size := by obtain ⟨m, hm⟩ := k0; exact DataW.trod_lt m _ _ _ hm
  have k1 := h1
  have lt1 : ∀ x ∈ p1, x.block < W.heap.size := by obtain ⟨m, hm⟩ := k1; exact DataW.trod_lt m _ _ _ hm
  have k2 := h2
  have lt2 : ∀ x ∈ p2, x.block < W.heap.size := by obtain ⟨m, hm⟩ := k2; exact DataW.trod_lt m _ _ _ hm
  have k3 := h3
  have lt3 : ∀ x ∈ p3, x.block < W.heap.size := by obtain ⟨m, hm⟩ := k3; exact DataW.trod_lt m _ _ _ hm
  have k4 := h4
  have lt4 : ∀ x ∈ p4, x.block < W.heap.size := by obtain ⟨m, hm⟩ := k4; exact DataW.trod_lt m _ _ _ hm
  have k5 := h5
  have lt5 : ∀ x ∈ p5, x.block < W.heap.size := by obtain ⟨m, hm⟩ := k5; exact DataW.trod_lt m _ _ _ hm
  obtain ⟨fuel0, hf0⟩ := h0
  obtain ⟨cs0, hcs0, _⟩ : ∃ cs, v0 = .agg cs ∧ cs.size = Tryz.prog.cellsOf 27 := by
    have := hval 0 27 v0 rfl rfl
    simp only [Value.okWide, Tryz.underlying27] at this
    obtain ⟨cs, h1, h2, _⟩ := this
    exact ⟨cs, h1, h2⟩
  subst hcs0
  obtain ⟨P0, hR0, hI0, hB0⟩ := open27 27 25 _ Tryz.underlying27 Tryz.underlying25 3 Tryz.underlying3 24 (fun fuel cs x hx => open26 24 22 _ Tryz.underlying24 Tryz.underlying22 3 Tryz.underlying3 (by kernel_rfl) (by kernel_rfl) (by kernel_rfl) (by kernel_rfl) fuel fuel cs x (Nat.le_refl _) hx) (by kernel_rfl) (by kernel_rfl) (by kernel_rfl) (by kernel_rfl) (by kernel_rfl) fuel0 fuel0 _ _ (Nat.le_refl _) hf0
  obtain ⟨pA0, pcap0, A0, cap0, row0, hcs0⟩ := hR0.inv
  obtain ⟨cs0⟩ := cs0
  simp only [Value.cells] at hcs0
  subst hcs0
  dsimp only at hB0
  obtain ⟨fuel1, hf1⟩ := h1
  obtain ⟨cs1, hcs1, _⟩ : ∃ cs, v1 = .agg cs ∧ cs.size = Tryz.prog.cellsOf 27 := by
    have := hval 1 27 v1 rfl rfl
    simp only [Value.okWide, Tryz.underlying27] at this
    obtain ⟨cs, h1, h2, _⟩ := this
    exact ⟨cs, h1, h2⟩
  subst hcs1
  obtain ⟨P1, hR1, hI1, hB1⟩ := open27 27 25 _ Tryz.underlying27 Tryz.underlying25 3 Tryz.underlying3 24 (fun fuel cs x hx => open26 24 22 _ Tryz.underlying24 Tryz.underlying22 3 Tryz.underlying3 (by kernel_rfl) (by kernel_rfl) (by kernel_rfl) (by kernel_rfl) fuel fuel cs x (Nat.le_refl _) hx) (by kernel_rfl) (by kernel_rfl) (by kernel_rfl) (by kernel_rfl) (by kernel_rfl) fuel1 fuel1 _ _ (Nat.le_refl _) hf1
  obtain ⟨pA1, pcap1, A1, cap1, row1, hcs1⟩ := hR1.inv
  obtain ⟨cs1⟩ := cs1
  simp only [Value.cells] at hcs1
  subst hcs1
  dsimp only at hB1
  obtain ⟨x2, rfl, rfl, rfl, w2⟩ := open_int Tryz.underlying3 (hval 2 3 v2 rfl rfl) h2
  have r2 := fit_i64 w2
  obtain ⟨x3, rfl, rfl, rfl, w3⟩ := open_int Tryz.underlying3 (hval 3 3 v3 rfl rfl) h3
  have r3 := fit_i64 w3
  obtain ⟨fuel4, hf4⟩ := h4
  obtain ⟨cs4, hcs4, _⟩ : ∃ cs, v4 = .agg cs ∧ cs.size = Tryz.prog.cellsOf 29 := by
    have := hval 4 29 v4 rfl rfl
    simp only [Value.okWide, Tryz.underlying29] at this
    obtain ⟨cs, h1, h2, _⟩ := this
    exact ⟨cs, h1, h2⟩
  subst hcs4
  obtain ⟨_, hs4⟩ := Sch.of_trod 9 _ (.pair (.int .i64) (.pair (.int .i64) (.pair (.int .i64) (.pair (.int .i64) .unit)))) _ _ _ (by kernel_rfl) hf4
  obtain ⟨cs4⟩ := cs4
  simp only [Value.cells] at hs4
  obtain ⟨_, _, rfl, _, ⟨x4_0, rfl, w4_0⟩, _, _, rfl, _, ⟨x4_1, rfl, w4_1⟩, _, _, rfl, _, ⟨x4_2, rfl, w4_2⟩, _, _, rfl, _, ⟨x4_3, rfl, w4_3⟩, rfl⟩ := hs4
  have r4_0 := fit_i64 w4_0
  have r4_1 := fit_i64 w4_1
  have r4_2 := fit_i64 w4_2
  have r4_3 := fit_i64 w4_3
  obtain ⟨x5, rfl, rfl, rfl, w5⟩ := open_int Tryz.underlying3 (hval 5 3 v5 rfl rfl) h5
  have r5 := fit_i64 w5
  clear hA0 hval0
  have hc : NCall Tryz.prog 5 [.agg (Po.cs P0 (.slice pA0 P0.p.l.length pcap0) (.slice A0 P0.l.length cap0)), .agg (Po.cs P1 (.slice pA1 P1.p.l.length pcap1) (.slice A1 P1.l.length cap1)), .int .i64 x2, .int .i64 x3, .agg [.int .i64 x4_0, .int .i64 x4_1, .int .i64 x4_2, .int .i64 x4_3], .int .i64 x5] [hpB (cellsW W)] (fun r _ => r = .bool true) := ptells27_c _ hT P0 P1 _ _ _ _ x2 x5 ⟨x3, x4_0, x4_1, x4_2, x4_3⟩ r5 (by omega) (by omega) row0 row1
  rw [NCall_iff] at hc
  have hc : Calls Tryz.prog 5 #[.agg #[.int .i64 P0.k, .int .i64 P0.p.k, .int .i64 P0.p.f, .int .i64 P0.p.v, .slice pA0 P0.p.l.length pcap0, .int .i64 P0.f, .int .i64 P0.v, .slice A0 P0.l.length cap0], .agg #[.int .i64 P1.k, .int .i64 P1.p.k, .int .i64 P1.p.f, .int .i64 P1.p.v, .slice pA1 P1.p.l.length pcap1, .int .i64 P1.f, .int .i64 P1.v, .slice A1 P1.l.length cap1], .int .i64 x2, .int .i64 x3, .agg #[.int .i64 x4_0, .int .i64 x4_1, .int .i64 x4_2, .int .i64 x4_3], .int .i64 x5] W _ := hc.2 W (memOk_heap W)
  refine hc.mono fun e W' ⟨r, m', h, he, _, hf, _⟩ => ?_
  subst h
  subst he
  have bel := below_heap hf
  exact ⟨_, rfl, _, _, _, [], _, [], hW', trodAll_mk1 (shut_bool Tryz.underlying4 _), (trodAll_cons_mk (Below.trod laidOut (by kernel_rfl) (of_decide_eq_true (by kernel_rfl)) k0 bel lt0) (trodAll_cons_mk (Below.trod laidOut (by kernel_rfl) (of_decide_eq_true (by kernel_rfl)) k1 bel lt1) (trodAll_cons_mk (Below.trod laidOut (by kernel_rfl) (of_decide_eq_true (by kernel_rfl)) k2 bel lt2) (trodAll_cons_mk (Below.trod laidOut (by kernel_rfl) (of_decide_eq_true (by kernel_rfl)) k3 bel lt3) (trodAll_cons_mk (Below.trod laidOut (by kernel_rfl) (of_decide_eq_true (by kernel_rfl)) k4 bel lt4) (trodAll_cons_mk (Below.trod laidOut (by kernel_rfl) (of_decide_eq_true (by kernel_rfl)) k5 bel lt5) trodAll_mk0)))))), rfl, bel.frame _, fun h => by cases h⟩
theorem holds : Rows.PolicyTellsUptoSaid :=
  OpenClaim.holds_of_cond 5 Tryz.f5 rfl rfl rfl rfl rfl rfl rfl ⟨rfl, rfl, rfl, rfl, rfl⟩ rfl rfl rfl rfl rfl (by kernel_rfl) Tryz.func5 (by kernel_rfl)
    (of_decide_eq_true (by kernel_rfl)) (by unfold Func.isWrapper; first | (rw [if_pos (by decide +kernel)]; kernel_rfl) | (rw [if_neg (by decide +kernel)]; exact ⟨rfl, rfl⟩))
    (fun os started H enc _ F => by rw [OpenClaim.pre_eq_preRow]; exact lifted os started H enc F)
theorem card_holds : Rows.PolicyTellsUptoCardSaid :=
  Claim7.holds_tied_plain_at .later [] _ _ _ _
    holds (fun _ h => by cases h) (by kernel_rfl) (fun _ h => by cases h) policyTellsUpto_row_tie rfl ⟨rfl, rfl⟩ (by kernel_rfl) rfl
    (fun f fn hf hfn => by
      obtain rfl : f = 5 := Option.some.inj ((show Tryz.prog.funcNamed "turnout/turnoutlaw27.PolicyTells" = some 5 by kernel_rfl).symm.trans hf) |>.symm
      obtain rfl : fn = Tryz.f5 := (Option.some.inj (Tryz.func5.symm.trans hfn)).symm
      exact ⟨by kernel_rfl, fun j t ht => by
        rw [Tryz.params5] at ht
        have hm : t ∈ [27, 27, 3, 3, 29, 3] := by simpa [or_assoc] using Array.mem_of_getElem? ht
        have hall : ([27, 27, 3, 3, 29, 3].all fun u => !Tryz.prog.wantsStandIn u) = true := by kernel_rfl
        exact (show Tryz.prog.wantsStandIn t = false by simpa using List.all_eq_true.1 hall t hm)⟩)
    (by kernel_rfl)
#print axioms card_holds
end Go.Proofs.YtngodakgbldlpaaGreatDoor.policyTellsRow
