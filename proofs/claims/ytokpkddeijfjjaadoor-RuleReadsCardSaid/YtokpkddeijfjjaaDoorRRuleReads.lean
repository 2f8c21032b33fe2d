/-
  The row of RuleReads: the contract joined to the statement.
-/
import Derived.Test.YtokpkddeijfjjaaDoorRu7
import Derived.Test.YtokpkddeijfjjaaDoorRows
import Derived.ProofKit
import Derived.OpenShut
import Derived.ChangeOld
import Derived.Carry
import Derived.Test.YtokpkddeijfjjaaDoorCard
import Derived.Test.YtokpkddeijfjjaaDoorTie
import Derived.Test.YtokpkddeijfjjaaDoorCards
import Derived.SevenTiedAt
import Derived.LaidMore
import Derived.Stop.Joined
namespace Go.Proofs.YtokpkddeijfjjaaDoor.ruleReadsRow
open Go.ChangeShapes Go.WideShapes Go.ChangeAt Go.RowKit Go.Sx
open Go.ChangeMaps (open_string shut_string)
theorem own : ownKnob Tryd.prog.godebug = none := by kernel_rfl
theorem laidOut : laidOutB Tryd.prog = true := by kernel_rfl
theorem fit_i64 {x : Int} (h : (Lit.int .i64 x).wf = true) : -9223372036854775808 ≤ x ∧ x ≤ 9223372036854775807 := by
  have e1 : IntKind.i64.min = -9223372036854775808 := by decide
  have e2 : IntKind.i64.max = 9223372036854775807 := by decide
  simp only [Lit.wf, e1, e2, Bool.and_eq_true, decide_eq_true_eq] at h
  exact h
theorem fit_str {s : ByteArray} (h : s.size ≤ maxLen) : s.data.toList.length ≤ 9223372036854775807 := by
  have e : s.data.toList.length = s.size := Array.length_toList
  rw [e]
  unfold maxLen at h
  omega
theorem door_met (os : Os) (args : Array Value) : laidMetH Tryd.prog Rows.ruleReadsRow.laid ((World.doorLaid Tryd.prog 400 os).forCall (fun _ _ => 0) ⟨#[], args, []⟩).memory :=
  laidMetH_of_parts3 (fuel := 8) (laidMet_of_run' 8 (by kernel_rfl) (by kernel_rfl)) (by kernel_rfl) (by kernel_rfl)
set_option maxRecDepth 100000 in
theorem lifted (os : Os) (started : os.Started) (H : Type) (enc : TypeId × Value → H) :
    ReturnsInHanded {} Tryd.checked os 9 .any (fun w args => (Rows.ruleReadsSpec.pre enc Tryd.prog Tryd.f9 [] false w args ∧ laidMetH Tryd.prog Rows.ruleReadsRow.laid w) ∧ sizedMet enc Tryd.prog Tryd.f9 (OpenSpec.ofChange Rows.ruleReadsSpec) false w args) (Rows.ruleReadsSpec.post enc Tryd.prog Tryd.f9 false true false false) := by
  refine returnsInHanded_of_change_and (C := Tryd.checked) (X := fun w _ => laidMetH Tryd.prog Rows.ruleReadsRow.laid w) (fun _ _ _ hh h => h.of_heap hh) own started (by kernel_rfl) Tryd.func9
    (ChangeSpec.witness_shaped (enc := enc) (C := Tryd.checked) (os := os) (X := fun w _ => laidMetH Tryd.prog Rows.ruleReadsRow.laid w) false (World.doorLaid Tryd.prog 400 os) #[.string ⟨#[]⟩, .agg #[.int .i64 0, .int .i64 0, .int .i64 0, .int .i64 0, .int .i64 0, .int .i64 0, .int .i64 0, .int .i64 0, .int .i64 0, .int .i64 0, .slice none 0 0], .int .i64 0] 8 rfl (World.shaped_of_RefB (by kernel_rfl) (by kernel_rfl)) (by kernel_rfl) (by kernel_rfl) (by kernel_rfl) (door_met os _)) ?_
  intro W base args ds gs before hval0 hW _ hZ hL _
  have hT : TabF (cellsW W) := tabF_of (by kernel_rfl) hL (by first | exact .head _ | exact .tail _ (.head _) | exact .tail _ (.tail _ (.head _)) | exact .tail _ (.tail _ (.tail _ (.head _))))
  have hval : ∀ (j : Nat) t v, Tryd.f9.params[j]? = some t → args[j]? = some v → Value.okWide Tryd.prog W .any base t v := hval0
  have hW' := hW
  obtain ⟨p, q, hA0, hV, rfl, hfz, hnd⟩ := hW
  have hA : DataW.TrodAll enc Tryd.prog W 0 (fun _ => true) true Tryd.f9.params.toList args.toList ds p := hA0
  rw [Tryd.params9] at hA hval
  obtain ⟨v0, vs0, d0, ds0, p0, q0, hargs, rfl, rfl, h0, t0⟩ := trodAll_cons hA
  obtain ⟨v1, vs1, d1, ds1, p1, q1, rfl, rfl, rfl, h1, t1⟩ := trodAll_cons t0
  obtain ⟨v2, vs2, d2, ds2, p2, q2, rfl, rfl, rfl, h2, t2⟩ := trodAll_cons t1
  obtain ⟨rfl, rfl, rfl⟩ := trodAll_nil t2
  obtain rfl : args = #[v0, v1, v2] := by cases args; simp_all
  obtain ⟨rfl, rfl⟩ := trodVars_none hV
  have k0 := h0
  have lt0 : ∀ x ∈ p0, x.block < W.heap.size := by obtain ⟨m, hm⟩ := k0; exact DataW.trod_lt m _ _ _ hm
  have k1 := h1
  have lt1 : ∀ x ∈ p1, x.block < W.heap.size := by obtain ⟨m, hm⟩ := k1; exact DataW.trod_lt m _ _ _ hm
  have k2 := h2
  have lt2 : ∀ x ∈ p2, x.block < W.heap.size := by obtain ⟨m, hm⟩ := k2; exact DataW.trod_lt m _ _ _ hm
  obtain ⟨x0, rfl, rfl, rfl, w0⟩ := open_string Tryd.underlying9 (hval 0 9 v0 rfl rfl) h0
  have l0 := fit_str w0
  obtain ⟨fuel1, hf1⟩ := h1
  obtain ⟨cs1, hcs1, _⟩ : ∃ cs, v1 = .agg cs ∧ cs.size = Tryd.prog.cellsOf 60 := by
    have := hval 1 60 v1 rfl rfl
    simp only [Value.okWide, Tryd.underlying60] at this
    obtain ⟨cs, h1, h2, _⟩ := this
    exact ⟨cs, h1, h2⟩
  subst hcs1
  obtain ⟨_, hs1⟩ := Sch.of_trod 9 _ (.pair (.int .i64) (.pair (.pair (.int .i64) (.pair (.pair (.int .i64) (.pair (.int .i64) (.pair (.int .i64) (.pair (.int .i64) .unit)))) (.pair (.pair (.int .i64) (.pair (.int .i64) (.pair (.int .i64) (.pair (.int .i64) .unit)))) .unit))) (.pair (.sl (.pair (.int .i64) (.pair (.int .i64) (.pair (.int .i64) .unit)))) .unit))) _ _ _ (by kernel_rfl) hf1
  obtain ⟨cs1⟩ := cs1
  simp only [Value.cells] at hs1
  obtain ⟨_, _, rfl, _, ⟨x1_0, rfl, w1_0⟩, _, _, rfl, _, ⟨_, _, rfl, _, ⟨x1_1, rfl, w1_1⟩, _, _, rfl, _, ⟨_, _, rfl, _, ⟨x1_2, rfl, w1_2⟩, _, _, rfl, _, ⟨x1_3, rfl, w1_3⟩, _, _, rfl, _, ⟨x1_4, rfl, w1_4⟩, _, _, rfl, _, ⟨x1_5, rfl, w1_5⟩, rfl⟩, _, _, rfl, _, ⟨_, _, rfl, _, ⟨x1_6, rfl, w1_6⟩, _, _, rfl, _, ⟨x1_7, rfl, w1_7⟩, _, _, rfl, _, ⟨x1_8, rfl, w1_8⟩, _, _, rfl, _, ⟨x1_9, rfl, w1_9⟩, rfl⟩, rfl⟩, _, _, rfl, _, ⟨x1_10, n1_10, rfl, ok1_10, nle1_10, el1_10⟩, rfl⟩ := hs1
  have r1_0 := fit_i64 w1_0
  have r1_1 := fit_i64 w1_1
  have r1_2 := fit_i64 w1_2
  have r1_3 := fit_i64 w1_3
  have r1_4 := fit_i64 w1_4
  have r1_5 := fit_i64 w1_5
  have r1_6 := fit_i64 w1_6
  have r1_7 := fit_i64 w1_7
  have r1_8 := fit_i64 w1_8
  have r1_9 := fit_i64 w1_9
  obtain ⟨l1_10, hl1_10, row1_10, q1_10⟩ := rowF_of (α := Ac.A) (fun x vs => vs = Ac.actV x) Ac.A.in64 ok1_10 el1_10 (by
    rintro cs ⟨_, _, rfl, _, ⟨x9_0, rfl, w9_0⟩, _, _, rfl, _, ⟨x9_1, rfl, w9_1⟩, _, _, rfl, _, ⟨x9_2, rfl, w9_2⟩, rfl⟩
    exact ⟨⟨x9_0, x9_1, x9_2⟩, rfl, ⟨fit_i64 w9_0, fit_i64 w9_1, fit_i64 w9_2⟩⟩)
  subst hl1_10
  obtain ⟨A1_10, cap1_10, rfl, _, _⟩ := ok1_10
  obtain ⟨x2, rfl, rfl, rfl, w2⟩ := open_int Tryd.underlying3 (hval 2 3 v2 rfl rfl) h2
  have r2 := fit_i64 w2
  clear hA0 hval0
  have hc : NCall Tryd.prog 9 [.str x0.data.toList, .agg [.int .i64 x1_0, .int .i64 x1_1, .int .i64 x1_2, .int .i64 x1_3, .int .i64 x1_4, .int .i64 x1_5, .int .i64 x1_6, .int .i64 x1_7, .int .i64 x1_8, .int .i64 x1_9, .hs (.slice A1_10 l1_10.length cap1_10) l1_10.length], .int .i64 x2] [hpB (cellsW W)] (fun r _ => r = .bool true) := ruleReads_c _ hT _ l0 ⟨x1_0, ⟨x1_1, x1_2, x1_3, x1_4, x1_5, x1_6, x1_7, x1_8, x1_9⟩, l1_10⟩ _ row1_10 ⟨r1_0, in64_of r1_1 r1_2 r1_3 r1_4 r1_5 r1_6 r1_7 r1_8 r1_9, q1_10, nle1_10⟩ x2
  rw [NCall_iff] at hc
  have hc : Calls Tryd.prog 9 #[.string x0, .agg #[.int .i64 x1_0, .int .i64 x1_1, .int .i64 x1_2, .int .i64 x1_3, .int .i64 x1_4, .int .i64 x1_5, .int .i64 x1_6, .int .i64 x1_7, .int .i64 x1_8, .int .i64 x1_9, .slice A1_10 l1_10.length cap1_10], .int .i64 x2] W _ := hc.2 W (memOk_heap W)
  refine hc.mono fun e W' ⟨r, m', h, he, _, hf, _⟩ => ?_
  subst h
  subst he
  have bel := below_heap hf
  exact ⟨_, rfl, _, _, _, [], _, [], hW', trodAll_mk1 (shut_bool Tryd.underlying4 _), (trodAll_cons_mk (Below.trod laidOut (by kernel_rfl) (of_decide_eq_true (by kernel_rfl)) k0 bel lt0) (trodAll_cons_mk (Below.trod laidOut (by kernel_rfl) (of_decide_eq_true (by kernel_rfl)) k1 bel lt1) (trodAll_cons_mk (Below.trod laidOut (by kernel_rfl) (of_decide_eq_true (by kernel_rfl)) k2 bel lt2) trodAll_mk0))), rfl, bel.frame _, fun h => by cases h⟩
theorem holds : Rows.RuleReadsSaid :=
  OpenClaim.holds_of_wide 9 Tryd.f9 rfl rfl rfl rfl rfl rfl rfl ⟨rfl, rfl, rfl, rfl, rfl⟩ rfl rfl rfl rfl rfl (by kernel_rfl) Tryd.func9 (by kernel_rfl)
    (of_decide_eq_true (by kernel_rfl)) (by unfold Func.isWrapper; first | (rw [if_pos (by decide +kernel)]; kernel_rfl) | (rw [if_neg (by decide +kernel)]; exact ⟨rfl, rfl⟩))
    (fun os started H enc _ => lifted os started H enc)
theorem card_holds : Rows.RuleReadsCardSaid :=
  Claim7.holds_tied_plain_at .later [] [.data, .data, .data] true (true, "9d7a92d8e4edc99d2d9071cd75062d233e5223f592e50625b9124c1ca87fe87f") true
    holds (fun _ h => by cases h) (by kernel_rfl) (fun _ h => by cases h) ruleReads_row_tie rfl ⟨rfl, rfl⟩ (by kernel_rfl) rfl
    (fun f fn hf hfn => by
      obtain rfl : f = 9 := Option.some.inj ((show Tryd.prog.funcNamed "turnout/turnoutlaw10.RuleReads" = some 9 by kernel_rfl).symm.trans hf) |>.symm
      obtain rfl : fn = Tryd.f9 := (Option.some.inj (Tryd.func9.symm.trans hfn)).symm
      exact ⟨by kernel_rfl, fun j t ht => by
        rw [Tryd.params9] at ht
        have hm : t ∈ [9, 60, 3] := by simpa [or_assoc] using Array.mem_of_getElem? ht
        have hall : ([9, 60, 3].all fun u => !Tryd.prog.wantsStandIn u) = true := by kernel_rfl
        exact (show Tryd.prog.wantsStandIn t = false by simpa using List.all_eq_true.1 hall t hm)⟩)
    (by kernel_rfl)
#print axioms card_holds
end Go.Proofs.YtokpkddeijfjjaaDoor.ruleReadsRow
