/-
  The row of ProtoBack: the contract joined to the statement.
-/
import Derived.Test.YtlcleiekeapkdaaPr14
import Derived.Test.YtlcleiekeapkdaaRows
import Derived.ProofKit
import Derived.OpenShut
import Derived.ChangeOld
import Derived.Carry
namespace Go.Proofs.Ytlcleiekeapkdaa.protoBackRow
open Go.ChangeShapes Go.WideShapes Go.ChangeAt Go.RowKit Go.Sx
open Go.ChangeMaps (open_string shut_string)
theorem own : ownKnob Try.prog.godebug = none := by kernel_rfl
theorem laidOut : laidOutB Try.prog = true := by kernel_rfl
theorem fit_i64 {x : Int} (h : (Lit.int .i64 x).wf = true) : -9223372036854775808 ≤ x ∧ x ≤ 9223372036854775807 := by
  have e1 : IntKind.i64.min = -9223372036854775808 := by decide
  have e2 : IntKind.i64.max = 9223372036854775807 := by decide
  simp only [Lit.wf, e1, e2, Bool.and_eq_true, decide_eq_true_eq] at h
  exact h
theorem fit_u8 {x : Int} (h : (Lit.int .u8 x).wf = true) : 0 ≤ x ∧ x ≤ 255 := by
  have e1 : IntKind.u8.min = 0 := by decide
  have e2 : IntKind.u8.max = 255 := by decide
  simp only [Lit.wf, e1, e2, Bool.and_eq_true, decide_eq_true_eq] at h
  exact h
set_option maxRecDepth 100000 in
theorem lifted (os : Os) (started : os.Started) (H : Type) (enc : TypeId × Value → H) :
    ReturnsInHanded {} Try.checked os 4 .any (Rows.protoBackSpec.pre6 enc Try.prog Try.f4 Rows.protoBackRow.domain false) (Rows.protoBackSpec.post enc Try.prog Try.f4 false true false false) := by
  refine returnsInHanded_of_change (C := Try.checked) own started (by kernel_rfl) Try.func4
    (ChangeSpec.witness6 (enc := enc) (C := Try.checked) false ⟨#[], #[.agg #[.int .i64 0, .int .i64 0, .int .i64 0, .int .i64 0, .int .i64 0, .int .i64 0, .int .i64 0, .int .i64 0, .int .i64 0, .slice none 0 0], .int .u8 0], []⟩ 8 (by kernel_rfl) (by kernel_rfl) (by kernel_rfl) (by kernel_rfl)) ?_
  intro W base args ds gs before hval0 hW hcnd _
  have hval : ∀ (j : Nat) t v, Try.f4.params[j]? = some t → args[j]? = some v → Value.okWide Try.prog W .any base t v := hval0
  have hW' := hW
  obtain ⟨p, q, hA0, hV, rfl, hfz, hnd⟩ := hW
  have hA : DataW.TrodAll enc Try.prog W 0 (fun _ => true) true Try.f4.params.toList args.toList ds p := hA0
  rw [Try.params4] at hA hval
  obtain ⟨v0, vs0, d0, ds0, p0, q0, hargs, rfl, rfl, h0, t0⟩ := trodAll_cons hA
  obtain ⟨v1, vs1, d1, ds1, p1, q1, rfl, rfl, rfl, h1, t1⟩ := trodAll_cons t0
  obtain ⟨rfl, rfl, rfl⟩ := trodAll_nil t1
  obtain rfl : args = #[v0, v1] := by cases args; simp_all
  obtain ⟨rfl, rfl⟩ := trodVars_none hV
  have k0 := h0
  have lt0 : ∀ x ∈ p0, x.block < W.heap.size := by obtain ⟨m, hm⟩ := k0; exact DataW.trod_lt m _ _ _ hm
  have k1 := h1
  have lt1 : ∀ x ∈ p1, x.block < W.heap.size := by obtain ⟨m, hm⟩ := k1; exact DataW.trod_lt m _ _ _ hm
  obtain ⟨fuel0, hf0⟩ := h0
  obtain ⟨cs0, hcs0, _⟩ : ∃ cs, v0 = .agg cs ∧ cs.size = Try.prog.cellsOf 24 := by
    have := hval 0 24 v0 rfl rfl
    simp only [Value.okWide, Try.underlying24] at this
    obtain ⟨cs, h1, h2, _⟩ := this
    exact ⟨cs, h1, h2⟩
  subst hcs0
  obtain ⟨_, hs0⟩ := Sch.of_trod 9 _ (.pair (.int .i64) (.pair (.int .i64) (.pair (.int .i64) (.pair (.int .i64) (.pair (.int .i64) (.pair (.int .i64) (.pair (.int .i64) (.pair (.int .i64) (.pair (.int .i64) (.pair (.sl (.pair (.int .i64) (.pair (.pair (.int .i64) (.pair (.pair (.int .i64) (.pair (.pair (.int .i64) (.pair (.int .i64) (.pair (.int .i64) (.pair (.int .i64) .unit)))) (.pair (.pair (.int .i64) (.pair (.int .i64) (.pair (.int .i64) (.pair (.int .i64) .unit)))) .unit))) (.pair (.sl (.pair (.int .i64) (.pair (.int .i64) (.pair (.int .i64) .unit)))) .unit))) (.pair .bool .unit)))) .unit)))))))))) _ _ _ (by kernel_rfl) hf0
  obtain ⟨cs0⟩ := cs0
  simp only [Value.cells] at hs0
  obtain ⟨_, _, rfl, _, ⟨x0_0, rfl, w0_0⟩, _, _, rfl, _, ⟨x0_1, rfl, w0_1⟩, _, _, rfl, _, ⟨x0_2, rfl, w0_2⟩, _, _, rfl, _, ⟨x0_3, rfl, w0_3⟩, _, _, rfl, _, ⟨x0_4, rfl, w0_4⟩, _, _, rfl, _, ⟨x0_5, rfl, w0_5⟩, _, _, rfl, _, ⟨x0_6, rfl, w0_6⟩, _, _, rfl, _, ⟨x0_7, rfl, w0_7⟩, _, _, rfl, _, ⟨x0_8, rfl, w0_8⟩, _, _, rfl, _, ⟨x0_9, n0_9, rfl, ok0_9, nle0_9, el0_9⟩, rfl⟩ := hs0
  have r0_0 := fit_i64 w0_0
  have r0_1 := fit_i64 w0_1
  have r0_2 := fit_i64 w0_2
  have r0_3 := fit_i64 w0_3
  have r0_4 := fit_i64 w0_4
  have r0_5 := fit_i64 w0_5
  have r0_6 := fit_i64 w0_6
  have r0_7 := fit_i64 w0_7
  have r0_8 := fit_i64 w0_8
  obtain ⟨l0_9, hl0_9, row0_9, q0_9⟩ := rowF_of (α := Pr.Md) (Pr.MdR (cellsW W)) Pr.Md.in64 ok0_9 el0_9 (by
    rintro cs ⟨_, _, rfl, _, ⟨x9_0, rfl, w9_0⟩, _, _, rfl, _, ⟨_, _, rfl, _, ⟨x9_1, rfl, w9_1⟩, _, _, rfl, _, ⟨_, _, rfl, _, ⟨x9_2, rfl, w9_2⟩, _, _, rfl, _, ⟨_, _, rfl, _, ⟨x9_3, rfl, w9_3⟩, _, _, rfl, _, ⟨x9_4, rfl, w9_4⟩, _, _, rfl, _, ⟨x9_5, rfl, w9_5⟩, _, _, rfl, _, ⟨x9_6, rfl, w9_6⟩, rfl⟩, _, _, rfl, _, ⟨_, _, rfl, _, ⟨x9_7, rfl, w9_7⟩, _, _, rfl, _, ⟨x9_8, rfl, w9_8⟩, _, _, rfl, _, ⟨x9_9, rfl, w9_9⟩, _, _, rfl, _, ⟨x9_10, rfl, w9_10⟩, rfl⟩, rfl⟩, _, _, rfl, _, ⟨x9_11, n9_11, rfl, ok9_11, nle9_11, el9_11⟩, rfl⟩, _, _, rfl, _, ⟨x9_12, rfl⟩, rfl⟩
    obtain ⟨l9, hl9, row9, q9⟩ := rowF_of (α := Ac.A) (fun x vs => vs = Ac.actV x) Ac.A.in64 ok9_11 el9_11 (by
      rintro cs ⟨_, _, rfl, _, ⟨y9_0, rfl, u9_0⟩, _, _, rfl, _, ⟨y9_1, rfl, u9_1⟩, _, _, rfl, _, ⟨y9_2, rfl, u9_2⟩, rfl⟩
      exact ⟨⟨y9_0, y9_1, y9_2⟩, rfl, ⟨fit_i64 u9_0, fit_i64 u9_1, fit_i64 u9_2⟩⟩)
    subst hl9
    obtain ⟨A9, cap9, rfl, _, _⟩ := ok9_11
    exact ⟨⟨x9_0, ⟨x9_1, ⟨x9_2, x9_3, x9_4, x9_5, x9_6, x9_7, x9_8, x9_9, x9_10⟩, l9⟩, x9_12⟩, ⟨A9, cap9, row9, rfl⟩, ⟨fit_i64 w9_0, fit_i64 w9_1, ⟨fit_i64 w9_2, fun f hf => by
      have : f = 0 ∨ f = 1 ∨ f = 2 ∨ f = 3 := by omega
      rcases this with rfl | rfl | rfl | rfl
      · exact ⟨fit_i64 w9_3, fit_i64 w9_7⟩
      · exact ⟨fit_i64 w9_4, fit_i64 w9_8⟩
      · exact ⟨fit_i64 w9_5, fit_i64 w9_9⟩
      · exact ⟨fit_i64 w9_6, fit_i64 w9_10⟩⟩, q9, nle9_11⟩⟩)
  subst hl0_9
  obtain ⟨A0_9, cap0_9, rfl, _, _⟩ := ok0_9
  obtain ⟨x1, rfl, rfl, rfl, w1⟩ := open_int Try.underlying5 (hval 1 5 v1 rfl rfl) h1
  have r1 := fit_u8 w1
  clear hA0 hval0
  have hc : NCall Try.prog 4 [.agg [.int .i64 x0_0, .int .i64 x0_1, .int .i64 x0_2, .int .i64 x0_3, .int .i64 x0_4, .int .i64 x0_5, .int .i64 x0_6, .int .i64 x0_7, .int .i64 x0_8, .hs (.slice A0_9 l0_9.length cap0_9) l0_9.length], .int .u8 x1] [hpB (cellsW W)] (fun r _ => r = .bool true) := protoBack_w _ ⟨x0_0, x0_1, x0_2, x0_3, x0_4, x0_5, x0_6, x0_7, x0_8, l0_9⟩ _ _ r1 row0_9 ⟨r0_0, r0_1, r0_2, r0_3, r0_4, r0_5, r0_6, r0_7, r0_8, q0_9, nle0_9⟩
  rw [NCall_iff] at hc
  have hc : Calls Try.prog 4 #[.agg #[.int .i64 x0_0, .int .i64 x0_1, .int .i64 x0_2, .int .i64 x0_3, .int .i64 x0_4, .int .i64 x0_5, .int .i64 x0_6, .int .i64 x0_7, .int .i64 x0_8, .slice A0_9 l0_9.length cap0_9], .int .u8 x1] W _ := hc.2 W (memOk_heap W)
  refine hc.mono fun e W' ⟨r, m', h, he, _, hf, _⟩ => ?_
  subst h
  subst he
  have bel := below_heap hf
  exact ⟨_, rfl, _, _, _, [], _, [], hW', trodAll_mk1 (shut_bool Try.underlying4 _), (trodAll_cons_mk (Below.trod laidOut (by kernel_rfl) (of_decide_eq_true (by kernel_rfl)) k0 bel lt0) (trodAll_cons_mk (Below.trod laidOut (by kernel_rfl) (of_decide_eq_true (by kernel_rfl)) k1 bel lt1) trodAll_mk0)), rfl, bel.frame _, fun h => by cases h⟩
theorem holds : Rows.ProtoBackSaid :=
  OpenClaim.holds_of_wide 4 Try.f4 rfl rfl rfl rfl rfl rfl rfl ⟨rfl, rfl, rfl, rfl, rfl⟩ rfl rfl rfl rfl rfl (by kernel_rfl) Try.func4 (by kernel_rfl)
    (of_decide_eq_true (by kernel_rfl)) (by unfold Func.isWrapper; first | (rw [if_pos (by decide +kernel)]; kernel_rfl) | (rw [if_neg (by decide +kernel)]; exact ⟨rfl, rfl⟩))
    (fun os started H enc _ => lifted os started H enc)
#print axioms holds
end Go.Proofs.Ytlcleiekeapkdaa.protoBackRow

