/-
  The row of AuditGuards: the contract joined to the statement.
-/
import Derived.Test.YtijkmhmgigaieaaAu7
import Derived.Test.YtijkmhmgigaieaaTc15e
import Derived.Test.YtijkmhmgigaieaaRows
import Derived.ProofKit
import Derived.OpenShut
import Derived.ChangeOld
import Derived.Carry
namespace Go.Proofs.Ytijkmhmgigaieaa.auditGuardsRow
open Go.ChangeShapes Go.WideShapes Go.ChangeAt Go.RowKit Go.Sx
open Go.ChangeMaps (open_string shut_string)
theorem own : ownKnob Try.prog.godebug = none := by kernel_rfl
theorem laidOut : laidOutB Try.prog = true := by kernel_rfl
theorem fit_i64 {x : Int} (h : (Lit.int .i64 x).wf = true) : -9223372036854775808 ≤ x ∧ x ≤ 9223372036854775807 := by
  have e1 : IntKind.i64.min = -9223372036854775808 := by decide
  have e2 : IntKind.i64.max = 9223372036854775807 := by decide
  simp only [Lit.wf, e1, e2, Bool.and_eq_true, decide_eq_true_eq] at h
  exact h
set_option maxRecDepth 100000 in
theorem lifted (os : Os) (started : os.Started) (H : Type) (enc : TypeId × Value → H) :
    ReturnsInHanded {} Try.checked os 4 .any (Rows.auditGuardsSpec.pre6 enc Try.prog Try.f4 Rows.auditGuardsRow.domain false) (Rows.auditGuardsSpec.post enc Try.prog Try.f4 false true false false) := by
  refine returnsInHanded_of_change (C := Try.checked) own started (by kernel_rfl) Try.func4
    (ChangeSpec.witness6 (enc := enc) (C := Try.checked) false ⟨#[], #[.slice none 0 0, .int .i64 0], []⟩ 8 (by kernel_rfl) (by kernel_rfl) (by kernel_rfl) (by kernel_rfl)) ?_
  intro W base args ds gs before hval0 hW hcnd _
  have hval : ∀ (j : Nat) t v, Try.f4.params[j]? = some t → args[j]? = some v → Value.okWide Try.prog W .any base t v := hval0
  have hW' := hW
  obtain ⟨p, q, hA0, hV, rfl, hfz, hnd⟩ := hW
  have hA : DataW.TrodAll enc Try.prog W 0 (fun _ => true) true Try.f4.params.toList args.toList ds p := hA0
  rw [Try.params4] at hA hval
  obtain ⟨v0, vs0, d0, ds0, p0, q0, hargs, rfl, rfl, h0, t0⟩ := trodAll_cons hA
  obtain ⟨v1, vs1, d1, ds1, p1, q1, rfl, rfl, rfl, h1, t1⟩ := trodAll_cons t0
  obtain ⟨rfl, rfl, rfl⟩ := trodAll_nil t1
  obtain rfl : args = #[v0, v1] := by cases args; simp_all
  obtain ⟨rfl, rfl⟩ := trodVars_none hV
  have k0 := h0
  have lt0 : ∀ x ∈ p0, x.block < W.heap.size := by obtain ⟨m, hm⟩ := k0; exact DataW.trod_lt m _ _ _ hm
  have k1 := h1
  have lt1 : ∀ x ∈ p1, x.block < W.heap.size := by obtain ⟨m, hm⟩ := k1; exact DataW.trod_lt m _ _ _ hm
  obtain ⟨fuel0, hf0⟩ := h0
  obtain ⟨a0, len0, cap0, rfl⟩ := okWide_slice Try.underlying35 (hval 0 35 v0 rfl rfl)
  obtain ⟨_, v0', n0, hv0, ok0, n0le, el0⟩ := Sch.of_trod 9 _ (.sl (.pair (.int .i64) (.pair (.int .i64) (.pair (.int .i64) (.pair (.int .i64) (.pair (.int .i64) (.pair (.int .i64) .unit))))))) _ _ _ (by kernel_rfl) hf0
  obtain rfl : Value.slice a0 len0 cap0 = v0' := by simpa [Value.cells] using hv0
  obtain ⟨l0, hl0, row0, q0⟩ := rowF_of (α := Tc.E) (fun x vs => vs = Tc.E.V x) Tc.E.Ok ok0 el0 (by
    rintro cs ⟨_, _, rfl, _, ⟨x0_0, rfl, w0_0⟩, _, _, rfl, _, ⟨x0_1, rfl, w0_1⟩, _, _, rfl, _, ⟨x0_2, rfl, w0_2⟩, _, _, rfl, _, ⟨x0_3, rfl, w0_3⟩, _, _, rfl, _, ⟨x0_4, rfl, w0_4⟩, _, _, rfl, _, ⟨x0_5, rfl, w0_5⟩, rfl⟩
    exact ⟨⟨x0_0, x0_1, x0_2, x0_3, x0_4, x0_5⟩, rfl, ⟨fit_i64 w0_0, fit_i64 w0_1, fit_i64 w0_2, fit_i64 w0_3, fit_i64 w0_4, fit_i64 w0_5⟩⟩)
  subst hl0
  obtain ⟨x1, rfl, rfl, rfl, w1⟩ := open_int Try.underlying3 (hval 1 3 v1 rfl rfl) h1
  have r1 := fit_i64 w1
  clear hA0 hval0
  have hc : NCall Try.prog 4 [.hs (.slice a0 len0 cap0) l0.length, .int .i64 x1] [hpB (cellsW W)] (fun r _ => r = .bool true) := pguards42_c _ _ l0 x1 row0
  rw [NCall_iff] at hc
  have hc : Calls Try.prog 4 #[.slice a0 len0 cap0, .int .i64 x1] W _ := hc.2 W (memOk_heap W)
  refine hc.mono fun e W' ⟨r, m', h, he, _, hf, _⟩ => ?_
  subst h
  subst he
  have bel := below_heap hf
  exact ⟨_, rfl, _, _, _, [], _, [], hW', trodAll_mk1 (shut_bool Try.underlying4 _), (trodAll_cons_mk (Below.trod laidOut (by kernel_rfl) (of_decide_eq_true (by kernel_rfl)) k0 bel lt0) (trodAll_cons_mk (Below.trod laidOut (by kernel_rfl) (of_decide_eq_true (by kernel_rfl)) k1 bel lt1) trodAll_mk0)), rfl, bel.frame _, fun h => by cases h⟩
theorem holds : Rows.AuditGuardsSaid :=
  OpenClaim.holds_of_wide 4 Try.f4 rfl rfl rfl rfl rfl rfl rfl ⟨rfl, rfl, rfl, rfl, rfl⟩ rfl rfl rfl rfl rfl (by kernel_rfl) Try.func4 (by kernel_rfl)
    (of_decide_eq_true (by kernel_rfl)) (by unfold Func.isWrapper; first | (rw [if_pos (by decide +kernel)]; kernel_rfl) | (rw [if_neg (by decide +kernel)]; exact ⟨rfl, rfl⟩))
    (fun os started H enc _ => lifted os started H enc)
#print axioms holds
end Go.Proofs.Ytijkmhmgigaieaa.auditGuardsRow


