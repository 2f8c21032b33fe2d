/-
  TreeMeans, walked; Conditions as the row reads them.
-/
import Derived.Test.YtaolcaggdddkpaaGreatJ41
import Derived.Test.YtaolcaggdddkpaaGreatJ42
import Derived.Test.YtaolcaggdddkpaaGreatJ7
import Derived.Test.YtaolcaggdddkpaaGreatRows
import Derived.ChangeArms
namespace Go.Proofs.YtaolcaggdddkpaaGreat
open Go.Sx
set_option maxRecDepth 20000
set_option linter.unusedSimpArgs false
set_option linter.unusedVariables false
set_option maxHeartbeats 8000000
set_option linter.unusedVariables false
def Tr.pok (s : Po.S) : Prop := (0 ≤ s.p0 ∧ s.p0 ≤ 255) ∧ (0 ≤ s.p1 ∧ s.p1 ≤ 255) ∧ (0 ≤ s.p2 ∧ s.p2 ≤ 15) ∧ (0 ≤ s.p3 ∧ s.p3 ≤ 255)
instance (s : Po.S) : Decidable (Tr.pok s) := by unfold Tr.pok; infer_instance
theorem pright31_c (s : Po.S) : NCall Tryz.prog 18 [.agg [.int .i64 s.p0, .int .i64 s.p1, .int .i64 s.p2, .int .i64 s.p3]] [] fun r _ => r = .bool (decide (Tr.pok s)) := by
  have t0 : NCall Tryz.prog 40 [.int .i64 0] [] fun r _ => r = .int .i64 255 := reftop7_c 0
  have t1 : NCall Tryz.prog 40 [.int .i64 (0 + 1)] [] fun r _ => r = .int .i64 255 := reftop7_c 1
  have t2 : NCall Tryz.prog 40 [.int .i64 (0 + 1 + 1)] [] fun r _ => r = .int .i64 15 := reftop7_c 2
  have t3 : NCall Tryz.prog 40 [.int .i64 (0 + 1 + 1 + 1)] [] fun r _ => r = .int .i64 255 := reftop7_c 3
  unfold Tr.pok
  obtain ⟨s0, s1, s2, s3, s4⟩ := s
  simp only
  refine ncall_of Tryz.func18 rfl (by decide) ?_
  (repeat' (first|(with_reducible first|(refine hK _ _ ?_;clear hK K)|(refine hA ?_;clear hA hB A B)|(refine hB ?_;clear hA hB A B)|(refine hK _ ?_;clear hK K))|((with_reducible refine gO ?_);(first|((with_reducible refine z25 ?_);intro K hK;(conv=>whnf))|(with_reducible refine z0 ?_)))|((with_reducible refine gP ?_);(first|((with_reducible first|refine z27 ?_|refine z28 ?_);intro K hK;(conv=>whnf))|(with_reducible refine z24 ?_)))|((first|((with_reducible refine gV ?_);(((with_reducible refine NV.i64 ?s ?_);case s=>omega)))|((with_reducible refine gI ?_);(first|((with_reducible refine NIf.decY ?s ?_);case s=>first|assumption|omega)|((with_reducible refine NIf.decN ?s ?_);case s=>first|assumption|omega)|((with_reducible refine NIf.yes ?s ?_);case s=>rfl)|(with_reducible refine NIf.dec (fun _=>?_) (fun _=>?_))))|((with_reducible refine gN ?_);(with_reducible first|refine NN.lit ?_|refine NN.a1 ?_|refine NN.keep ?_))|((with_reducible refine gH ?_);((with_reducible refine NH.mk ?s ?_);case s=>(and_intros<;>first|with_reducible rfl|omega)))|((with_reducible refine gQ ?_);(first|((with_reducible refine NCallQ.isF 40 ?_);refine NCallQ.pureEq (t0) ?_)|((with_reducible refine NCallQ.isF 40 ?_);refine NCallQ.pureEq (t1) ?_)|((with_reducible refine NCallQ.isF 40 ?_);refine NCallQ.pureEq (t2) ?_)|((with_reducible refine NCallQ.isF 40 ?_);refine NCallQ.pureEq (t3) ?_))))<;>(conv=>whnf))|((with_reducible refine gX ?_);(first|(with_reducible refine st_rounds 5 ?_)|(with_reducible first|refine z3 ?_|refine z4 ?_|refine z5 ?_|refine z6 ?_|refine z7 ?_|refine z8 ?_)|((with_reducible refine z29 ?_);intro A B hA hB;(conv=>whnf))|(refine z34 (by kernel_rfl) (by kernel_rfl) ?_)))|(with_reducible first|refine z1 ?_|refine z2 ?_|refine z9 ?_|refine z10 ?_|refine z11 ?_|refine z12 ?_|refine z13 ?_|refine z21 ?_|refine z22 ?_|refine z23 ?_)|((with_reducible refine gR ?_);((refine z31 rfl ?_);intro K hK;(conv=>whnf)))|((with_reducible refine gF ?_);((refine z33 rfl ?_);intro K hK;(conv=>whnf)))|((intro _;skip)<;>(conv=>whnf))))
  all_goals first | exact po_boolT (by omega) | exact po_boolF (by omega)
theorem pmeans31_c (F : Heap) (x : Po.T) (pu u : Value) (sw : Int) (t : Po.S) (hs : Po.tot x ≤ 1000000000) (hx : Po.At F x pu u) :
    NCall Tryz.prog 5 [.agg (Po.cs x pu u), .int .i64 sw, .int .i64 t.port, .agg [.int .i64 t.p0, .int .i64 t.p1, .int .i64 t.p2, .int .i64 t.p3]] [hpB F] fun r _ => r = .bool true := by
  have hok := hx.l.ok
  have hpok := hx.p.ok
  have cw := fun G => awake31_c G
  have cR := refright27_c F x pu u (by omega) hx
  have cF := few31_c F x pu u hs hx
  have cP := pright31_c t
  by_cases hall : Po.right x = true ∧ Tr.few x = true ∧ Tr.pok t ∧ 0 ≤ t.port ∧ t.port ≤ 7
  rotate_left
  · have cw := cw F
    have hall : ∀ b1 b2 b3, Po.right x = b1 → Tr.few x = b2 → decide (Tr.pok t) = b3 → b1 = true → b2 = true → b3 = true → ¬ (0 ≤ t.port ∧ t.port ≤ 7) := fun b1 b2 b3 e1 e2 e3 h1 h2 h3 h4 => hall ⟨e1.trans h1, e2.trans h2, of_decide_eq_true (e3.trans h3), h4⟩
    have hall := hall _ _ _ rfl rfl rfl
    generalize Po.right x = b1 at *
    generalize Tr.few x = b2 at *
    generalize decide (Tr.pok t) = b3 at *
    clear hx
    obtain ⟨k, ⟨pk, pf, pv, pl⟩, a, v, l⟩ := x
    obtain ⟨t0, t1, t2, t3, t4⟩ := t
    simp only [po_cs, Po.T.l, Po.T.p, Pd.T.k, Pd.T.f, Pd.T.v, Pd.T.l] at *
    refine ncall_of Tryz.func5 rfl (by decide) ?_
    cases b1
    · (repeat' (first|(with_reducible first|(refine hK _ _ ?_;clear hK K)|(refine hA ?_;clear hA hB A B)|(refine hK _ ?_;clear hK K))|((with_reducible refine gO ?_);(first|((with_reducible first|refine z25 ?_|refine z26 ?_);intro K hK;(conv=>whnf))|(with_reducible refine z0 ?_)))|((first|((with_reducible refine gI ?_);(first|with_reducible refine NIf.not_ ?_|((with_reducible refine NIf.yes ?s ?_);case s=>rfl)|((with_reducible refine NIf.no ?s ?_);case s=>rfl)))|((with_reducible refine gH ?_);((with_reducible refine NH.mk ?s ?_);case s=>(and_intros<;>with_reducible rfl)))|((with_reducible refine gC ?_);(first|((with_reducible refine NCall.isF 15 ?_);refine NCall.subE [0] (cR) rfl (by decide) rfl rfl ?_)|((with_reducible refine NCall.isF 7 ?_);refine NCall.subE [0] (cw) rfl (by decide) rfl rfl ?_))))<;>(conv=>whnf))|((with_reducible refine gX ?_);(first|(with_reducible first|refine z3 ?_|refine z4 ?_|refine z8 ?_)|((with_reducible refine z29 ?_);intro A B hA hB;(conv=>whnf))))|(with_reducible first|refine z1 ?_|refine z2 ?_|refine z12 ?_)|((with_reducible refine gR ?_);((refine z31 rfl ?_);intro K hK;(conv=>whnf)))|((with_reducible refine gF ?_);((refine z33 rfl ?_);intro K hK;(conv=>whnf)))|((intro _;skip)<;>(conv=>whnf))))
      all_goals rfl
    cases b2
    · (repeat' (first|(with_reducible first|(refine hK _ _ ?_;clear hK K)|(refine hA ?_;clear hA hB A B)|(refine hK _ ?_;clear hK K))|((with_reducible refine gO ?_);(first|((with_reducible first|refine z25 ?_|refine z26 ?_);intro K hK;(conv=>whnf))|(with_reducible refine z0 ?_)))|((first|((with_reducible refine gI ?_);(first|with_reducible refine NIf.not_ ?_|((with_reducible refine NIf.yes ?s ?_);case s=>rfl)|((with_reducible refine NIf.no ?s ?_);case s=>rfl)))|((with_reducible refine gH ?_);((with_reducible refine NH.mk ?s ?_);case s=>(and_intros<;>with_reducible rfl)))|((with_reducible refine gC ?_);(first|((with_reducible refine NCall.isF 15 ?_);refine NCall.subE [0] (cR) rfl (by decide) rfl rfl ?_)|((with_reducible refine NCall.isF 6 ?_);refine NCall.subE [0] (cF) rfl (by decide) rfl rfl ?_)|((with_reducible refine NCall.isF 7 ?_);refine NCall.subE [0] (cw) rfl (by decide) rfl rfl ?_))))<;>(conv=>whnf))|((with_reducible refine gX ?_);(first|(with_reducible first|refine z3 ?_|refine z4 ?_|refine z8 ?_)|((with_reducible refine z29 ?_);intro A B hA hB;(conv=>whnf))))|(with_reducible first|refine z1 ?_|refine z2 ?_|refine z12 ?_)|((with_reducible refine gR ?_);((refine z31 rfl ?_);intro K hK;(conv=>whnf)))|((with_reducible refine gF ?_);((refine z33 rfl ?_);intro K hK;(conv=>whnf)))|((intro _;skip)<;>(conv=>whnf))))
      all_goals rfl
    cases b3
    · (repeat' (first|(with_reducible first|(refine hK _ _ ?_;clear hK K)|(refine hA ?_;clear hA hB A B)|(refine hK _ ?_;clear hK K))|((with_reducible refine gO ?_);(first|((with_reducible first|refine z25 ?_|refine z26 ?_);intro K hK;(conv=>whnf))|(with_reducible refine z0 ?_)))|((first|((with_reducible refine gI ?_);(first|with_reducible refine NIf.not_ ?_|((with_reducible refine NIf.yes ?s ?_);case s=>rfl)|((with_reducible refine NIf.no ?s ?_);case s=>rfl)))|((with_reducible refine gH ?_);((with_reducible refine NH.mk ?s ?_);case s=>(and_intros<;>with_reducible rfl)))|((with_reducible refine gC ?_);(first|((with_reducible refine NCall.isF 15 ?_);refine NCall.subE [0] (cR) rfl (by decide) rfl rfl ?_)|((with_reducible refine NCall.isF 6 ?_);refine NCall.subE [0] (cF) rfl (by decide) rfl rfl ?_)|((with_reducible refine NCall.isF 18 ?_);refine NCall.pureE (cP) ?_)|((with_reducible refine NCall.isF 7 ?_);refine NCall.subE [0] (cw) rfl (by decide) rfl rfl ?_))))<;>(conv=>whnf))|((with_reducible refine gX ?_);(first|(with_reducible first|refine z3 ?_|refine z4 ?_|refine z8 ?_)|((with_reducible refine z29 ?_);intro A B hA hB;(conv=>whnf))))|(with_reducible first|refine z1 ?_|refine z2 ?_|refine z12 ?_)|((with_reducible refine gR ?_);((refine z31 rfl ?_);intro K hK;(conv=>whnf)))|((with_reducible refine gF ?_);((refine z33 rfl ?_);intro K hK;(conv=>whnf)))|((intro _;skip)<;>(conv=>whnf))))
      all_goals rfl
    have hall := hall rfl rfl rfl
    by_cases h0 : t0 < 0
    · (repeat' (first|(with_reducible first|(refine hK _ _ ?_;clear hK K)|(refine hA ?_;clear hA hB A B)|(refine hK _ ?_;clear hK K))|((with_reducible refine gO ?_);(first|((with_reducible first|refine z25 ?_|refine z26 ?_);intro K hK;(conv=>whnf))|(with_reducible refine z0 ?_)))|((first|((with_reducible refine gI ?_);(first|with_reducible refine NIf.not_ ?_|((with_reducible refine NIf.decY ?s ?_);case s=>assumption)|((with_reducible refine NIf.yes ?s ?_);case s=>rfl)))|((with_reducible refine gH ?_);((with_reducible refine NH.mk ?s ?_);case s=>(and_intros<;>with_reducible rfl)))|((with_reducible refine gC ?_);(first|((with_reducible refine NCall.isF 15 ?_);refine NCall.subE [0] (cR) rfl (by decide) rfl rfl ?_)|((with_reducible refine NCall.isF 6 ?_);refine NCall.subE [0] (cF) rfl (by decide) rfl rfl ?_)|((with_reducible refine NCall.isF 18 ?_);refine NCall.pureE (cP) ?_)|((with_reducible refine NCall.isF 7 ?_);refine NCall.subE [0] (cw) rfl (by decide) rfl rfl ?_))))<;>(conv=>whnf))|((with_reducible refine gX ?_);(first|(with_reducible first|refine z3 ?_|refine z4 ?_|refine z8 ?_)|((with_reducible refine z29 ?_);intro A B hA hB;(conv=>whnf))))|(with_reducible first|refine z1 ?_|refine z2 ?_|refine z12 ?_)|((with_reducible refine gR ?_);((refine z31 rfl ?_);intro K hK;(conv=>whnf)))|((with_reducible refine gF ?_);((refine z33 rfl ?_);intro K hK;(conv=>whnf)))|((intro _;skip)<;>(conv=>whnf))))
      all_goals first | rfl | (exfalso; omega)
    · (repeat' (first|(with_reducible first|(refine hK _ _ ?_;clear hK K)|(refine hA ?_;clear hA hB A B)|(refine hK _ ?_;clear hK K))|((with_reducible refine gO ?_);(first|((with_reducible first|refine z25 ?_|refine z26 ?_);intro K hK;(conv=>whnf))|(with_reducible refine z0 ?_)))|((first|((with_reducible refine gI ?_);(first|with_reducible refine NIf.not_ ?_|((with_reducible refine NIf.decY ?s ?_);case s=>omega)|((with_reducible refine NIf.decN ?s ?_);case s=>assumption)|((with_reducible refine NIf.yes ?s ?_);case s=>rfl)))|((with_reducible refine gH ?_);((with_reducible refine NH.mk ?s ?_);case s=>(and_intros<;>with_reducible rfl)))|((with_reducible refine gC ?_);(first|((with_reducible refine NCall.isF 15 ?_);refine NCall.subE [0] (cR) rfl (by decide) rfl rfl ?_)|((with_reducible refine NCall.isF 6 ?_);refine NCall.subE [0] (cF) rfl (by decide) rfl rfl ?_)|((with_reducible refine NCall.isF 18 ?_);refine NCall.pureE (cP) ?_)|((with_reducible refine NCall.isF 7 ?_);refine NCall.subE [0] (cw) rfl (by decide) rfl rfl ?_))))<;>(conv=>whnf))|((with_reducible refine gX ?_);(first|(with_reducible first|refine z3 ?_|refine z4 ?_|refine z8 ?_)|((with_reducible refine z29 ?_);intro A B hA hB;(conv=>whnf))))|(with_reducible first|refine z1 ?_|refine z2 ?_|refine z12 ?_)|((with_reducible refine gR ?_);((refine z31 rfl ?_);intro K hK;(conv=>whnf)))|((with_reducible refine gF ?_);((refine z33 rfl ?_);intro K hK;(conv=>whnf)))|((intro _;skip)<;>(conv=>whnf))))
      all_goals first | rfl | (exfalso; omega)
  obtain ⟨hr, hfw, hp, h0, h7⟩ := hall
  rw [hr] at cR
  rw [hfw] at cF
  rw [decide_eq_true hp] at cP
  have hxf := Po.right_fits' hr
  have hce := Nat.le_trans (Tr.few_cells sw x hxf 5) (Tr.few_iff hfw).1
  have hcn := Nat.le_trans (Tr.few_cnt sw x hxf) (Tr.few_iff hfw).1
  have cC := fun G a b (h : Po.At G x a b) => Cases31_c G x a b sw hs h (fun _ => Nat.le_trans hce (by decide)) (fun _ => Nat.le_trans hcn (by decide))
  have hans : Tr.ans sw x = (Tr.all sw x, 0) := by unfold Tr.ans; rw [if_pos hr]
  rw [hans] at cC
  obtain ⟨hn1, hn2, _, _, hout⟩ := Tr.all_facts sw x hr hfw
  have ht : ∀ f, Tr.ok f → 0 ≤ Tr.gt f t := fun f hf => by
    obtain ⟨hp0, hp1, hp2, hp3⟩ := hp
    rcases Tr.ok5 hf with rfl | rfl | rfl | rfl | rfl
    · exact hp0.1
    · exact hp1.1
    · exact hp2.1
    · exact hp3.1
    · exact h0
  obtain ⟨c, hfind, hnd, hmem⟩ := Tr.found_runs sw x hxf t ht
  obtain ⟨i, hi, hci⟩ := Tr.idx_find hfind
  have hcm := hout c (List.mem_of_getElem? hci)
  have hilt : i < (Tr.all sw x).length := (List.getElem?_eq_some_iff.1 hci).1
  have cD := fun G v (h : Tr.Row G v (Tr.all sw x)) => find31_c G t v (Tr.all sw x) h (by omega)
  rw [hi] at cD
  have hR64 := Po.runs_64 sw x hr t
  have cN := fun G a b (h : Po.At G x a b) => Run27_c G x a b sw t (by omega) hxf (by omega) h
  have cT := fun G A (h : Po.SRow G A c.out) => run31_c G c A t (Po.runs sw x t) h (by omega) hnd (Po.runs_rising sw t _ x (Nat.le_refl _)) hmem
  generalize Po.runs sw x t = R at *
  have cS := fun G z z' (h : Po.SRow G z R) (h' : Po.SRow G z' R) => sent27_c G z z' R R h h' (by omega) (by omega)
  rw [show decide (R = R) = true by simp] at cS
  have cm := fun G (h : F.le G) => mine27_c _ G x pu u (Nat.le_refl _) (by omega) (Po.At.mono h hx)
  generalize Tr.all sw x = C at *
  have hAm := fun (G G' : Heap) (a b : Value) (h : G.le G') (h2 : Po.At G x a b) => Po.At.mono h h2
  clear hr hfw hx hxf hce hcn hans hout hfind hnd hmem ht hp hi
  have cC := fun G a b (h : Po.At G x a b) => (cC G a b h).mono (K' := fun r m => ∃ F' v A cap, G.le F' ∧ Tr.Row F' v C ∧ SlOk v C.length ∧ Po.SRow F' (.slice A c.out.length cap) c.out ∧ SlOk (.slice A c.out.length cap) c.out.length ∧ F'.c ((addrOf v).add (i * 6)) (.int .i64 c.s.port) ∧ F'.c ((addrOf v).add (i * 6 + 1)) (.int .i64 c.s.p0) ∧ F'.c ((addrOf v).add (i * 6 + 2)) (.int .i64 c.s.p1) ∧ F'.c ((addrOf v).add (i * 6 + 3)) (.int .i64 c.s.p2) ∧ F'.c ((addrOf v).add (i * 6 + 4)) (.int .i64 c.s.p3) ∧ F'.c ((addrOf v).add (i * 6 + 5)) (.slice A c.out.length cap) ∧ r = .tup [.hs v C.length, .int .i64 0] ∧ m = [hpB F']) fun r m ⟨F', v, h1, h2, h3, h4⟩ => by
    obtain ⟨A, cap, hA, c0, c1, c2, c3, c4, c5⟩ := h2.get hci
    exact ⟨F', v, A, cap, h1, h2, h2.ok, hA, hA.ok, c0, c1, c2, c3, c4, c5, h3, h4⟩
  obtain ⟨k, ⟨pk, pf, pv, pl⟩, a, v, l⟩ := x
  obtain ⟨t0, t1, t2, t3, t4⟩ := t
  obtain ⟨⟨c0, c1, c2, c3, c4⟩, co⟩ := c
  simp only [po_cs, Po.Lays, Tr.cs, Po.T.l, Po.T.p, Pd.T.k, Pd.T.f, Pd.T.v, Pd.T.l] at *
  refine ncall_of Tryz.func5 rfl (by decide) ?_
  (repeat' (first|(with_reducible first|(refine hK _ _ ?_;clear hK K)|(refine hB ?_;clear hA hB A B)|(refine hK _ ?_;clear hK K))|((with_reducible refine gO ?_);(first|((with_reducible first|refine z25 ?_|refine z26 ?_);intro K hK;(conv=>whnf))|(with_reducible refine z0 ?_)))|((first|((with_reducible refine gI ?_);(first|(((with_reducible refine NIf.yes ?s ?_);case s=>(simp ;done)))|(((with_reducible refine NIf.no ?s ?_);case s=>(simp ;done)))|((with_reducible refine NIf.decN ?s ?_);case s=>omega)))|((with_reducible refine gN ?_);(with_reducible first|refine NN.cast ?_|refine NN.keep ?_))|((with_reducible refine gH ?_);((with_reducible refine NH.mk ?s ?_);case s=>(and_intros<;>first|with_reducible rfl|((with_reducible refine gKept ?_);exact rfl)|omega|rfl)))|((with_reducible refine gC ?_);(first|((with_reducible refine NCall.isF 15 ?_);refine NCall.subE [0] (cR) rfl (by decide) rfl rfl ?_)|((with_reducible refine NCall.isF 6 ?_);refine NCall.subE [0] (cF) rfl (by decide) rfl rfl ?_)|((with_reducible refine NCall.isF 18 ?_);refine NCall.pureE (cP) ?_)|((with_reducible refine NCall.isF 9 ?_);refine NCall.subw [0] _ _ (cm F F.le_refl) rfl (by decide) rfl ?_; rintro _ _ ⟨F1, a1, u1, hle1, hu1, rfl, rfl⟩; refine ⟨Nat.le_of_ble_eq_true rfl, _, rfl, ?_⟩)|((with_reducible refine NCall.isF 8 ?_);refine NCall.subw [0] _ _ (cC F1 a1 u1 hu1) rfl (by decide) rfl ?_; rintro _ _ ⟨F2, w, A, cap, hle2, hw, hwo, hA, hAo, l0, l1, l2, l3, l4, l5, rfl, rfl⟩; refine ⟨Nat.le_of_ble_eq_true rfl, _, rfl, ?_⟩)|((with_reducible refine NCall.isF 13 ?_);refine NCall.subE [0] (cD F2 w hw) rfl (by decide) rfl rfl ?_)|((with_reducible refine NCall.isF 19 ?_);refine NCall.subw [3] _ _ (cT _ _ (by first | exact hA | exact Tr.srow_mono hlm hA | exact Tr.srow_mono (hlm.trans hlp) hA)) rfl (by decide) rfl ?_; rintro _ _ ⟨Ga, va, hla, hva, rfl, rfl⟩; refine ⟨Nat.le_of_ble_eq_true rfl, _, rfl, ?_⟩)|((with_reducible refine NCall.isF 9 ?_);refine NCall.subw [3] _ _ (cm _ (by first | exact hle1.trans hle2 | exact (hle1.trans hle2).trans hla)) rfl (by decide) rfl ?_; rintro _ _ ⟨Gm, am, um, hlm, hum, rfl, rfl⟩; refine ⟨Nat.le_of_ble_eq_true rfl, _, rfl, ?_⟩)|((with_reducible refine NCall.isF 20 ?_);refine NCall.subw [3] _ _ (cN _ am um (by first | exact hum | exact hAm _ _ _ _ hla hum)) rfl (by decide) rfl ?_; rintro _ _ ⟨Gp, vp, hlp, hvp, rfl, rfl⟩; refine ⟨Nat.le_of_ble_eq_true rfl, _, rfl, ?_⟩)|((with_reducible refine NCall.isF 17 ?_);refine NCall.subE [3] (cS _ va vp (by first | exact hva | exact Tr.srow_mono hlp hva | exact Tr.srow_mono (hlm.trans hlp) hva) (by first | exact hvp | exact Tr.srow_mono hla hvp)) rfl (by decide) rfl rfl ?_)|((with_reducible refine NCall.isF 7 ?_);refine NCall.subE [3] (cw _) rfl (by decide) rfl rfl ?_)))|(with_reducible refine NLd.of (by with_reducible assumption) ?_))<;>(conv=>whnf))|((with_reducible refine gNRK ?_);((with_reducible refine st_ordSout ?_)))|((with_reducible refine gNOK ?_);(first|(refine st_ordK1 rfl (by kernel_rfl) rfl ?_; intro K hK; (conv=>whnf))|(refine st_ordK0 rfl (by kernel_rfl) ?_)|(refine st_ordKA rfl rfl (by kernel_rfl) (by intro h; cases h) ?_)))|((with_reducible refine gNEK ?_);(first|(refine st_eachK ?_ ?_; (intro K hK; (conv=>whnf)))|(refine st_eachKg rfl ?_ ?_; (intro K hK; (conv=>whnf)))|exact st_eachK0))|((with_reducible refine gX ?_);(first|(refine st_drawFits (m := [hpB F2, _, _]) (m' := [hpB F2, _, _, hpB F2]) (FitsSl.refl _) ((MemFits.dup F2.le_refl _).trans (MemFits.pick [0, 2, 3, 1] (by decide) rfl)) ?_)|(refine st_orderS [3] rfl rfl (by kernel_rfl) _ rfl ?_)|(with_reducible first|refine z3 ?_|refine z4 ?_|refine z6 ?_|refine z8 ?_)|((with_reducible refine z29 ?_);intro A B hA hB;(conv=>whnf))))|(with_reducible first|refine z1 ?_|refine z2 ?_)|((with_reducible refine gR ?_);((refine z31 rfl ?_);intro K hK;(conv=>whnf)))|((with_reducible refine gF ?_);((refine z33 rfl ?_);intro K hK;(conv=>whnf)))|((intro _;skip)<;>(conv=>whnf))))
  all_goals first | (exfalso; omega) | rfl | skip
end Go.Proofs.YtaolcaggdddkpaaGreat
namespace Go.Proofs.YtaolcaggdddkpaaGreat
open Go.Sx Go.RowKit Go.ChangeShapes Go.WideShapes
set_option maxRecDepth 20000
set_option linter.unusedVariables false
theorem fit64 {x : Int} (h : (Lit.int .i64 x).wf = true) : -9223372036854775808 ≤ x ∧ x ≤ 9223372036854775807 := by
  have e1 : IntKind.i64.min = -9223372036854775808 := by decide
  have e2 : IntKind.i64.max = 9223372036854775807 := by decide
  simp only [Lit.wf, e1, e2, Bool.and_eq_true, decide_eq_true_eq] at h
  exact h
theorem bulk_le {H : Type} : ∀ (l : List Pd.T) (es : List (DataW H × List MemPlace)), l.length = es.length → (∀ (i : Nat) (p : Pd.T) (e : DataW H × List MemPlace), l[i]? = some p → es[i]? = some e → Pd.size p ≤ Rows.uptoBulk e.1) → Pd.sizeL l ≤ Rows.uptoBulkAll (es.map (·.1))
  | [], _, _, _ => by rw [Pd.sizeL]; exact Nat.zero_le _
  | p :: l, [], h, _ => by simp at h
  | p :: l, e :: es, h, hi => by
    have h1 := hi 0 p e rfl rfl
    have h2 := bulk_le l es (by simpa using h) fun i q f hq hf => hi (i + 1) q f (by simpa using hq) (by simpa using hf)
    rw [Pd.sizeL, List.map_cons, Rows.uptoBulkAll]
    omega
section
variable {H : Type} {enc : TypeId × Value → H} {W : World} {spare : Nat → Bool} {held : Bool}
theorem open26 (t tS : TypeId) (fs : Array Field) (hT : Tryz.prog.underlying t = some (.struct fs)) (hS : Tryz.prog.underlying tS = some (.slice t)) (ti : TypeId) (hI : Tryz.prog.underlying ti = some (.int .i64))
    (hfs : fs.toList.map (fun f => (f.type, f.offset)) = [(ti, 0), (ti, 1), (ti, 2), (tS, 3)]) (hc : Tryz.prog.cellsOf t = 4) (hci : Tryz.prog.cellsOf ti = 1) (hcs : Tryz.prog.cellsOf tS = 1) :
    ∀ (N fuel : Nat) (cs : List Value) (x : DataW H × List MemPlace), fuel ≤ N → DataW.trod enc Tryz.prog W 0 spare held fuel t cs = some x → ∃ p : Pd.T, Pd.R (cellsW W) p cs ∧ Pd.in64 p ∧ Pd.size p ≤ Rows.uptoBulk x.1
  | 0, fuel, cs, x, hN, hx => by
    obtain ⟨xs, n, h1, _⟩ := DataW.trod_struct hT hx
    omega
  | N + 1, fuel, cs, x, hN, hx => by
    obtain ⟨xs, n, h1, h2, hlen, hxl, hf⟩ := DataW.trod_struct hT hx
    have hfs4 : fs.size = 4 := by have := congrArg List.length hfs; simpa using this
    have hat : ∀ i (hi : i < 4), ∃ f, fs[i]? = some f ∧ (f.type, f.offset) = [(ti, 0), (ti, 1), (ti, 2), (tS, 3)][i] := fun i hi => by
      have hi' : i < fs.size := by omega
      refine ⟨fs[i], Array.getElem?_eq_getElem hi', ?_⟩
      have := congrArg (fun l => l[i]?) hfs
      simp only [List.getElem?_map, Array.getElem?_toList, Array.getElem?_eq_getElem hi', Option.map_some, List.getElem?_eq_getElem (show i < [(ti, 0), (ti, 1), (ti, 2), (tS, 3)].length by simpa using hi), Option.some.injEq] at this
      exact this
    match cs, (hlen.trans hc) with
    | [c0, c1, c2, c3], _ =>
      match xs, (hxl.trans hfs4) with
      | [x0, x1, x2, x3], _ =>
        obtain ⟨f0, g0, e0⟩ := hat 0 (by decide)
        obtain ⟨f1, g1, e1⟩ := hat 1 (by decide)
        obtain ⟨f2, g2, e2⟩ := hat 2 (by decide)
        obtain ⟨f3, g3, e3⟩ := hat 3 (by decide)
        simp only [List.getElem_cons_zero, List.getElem_cons_succ, Prod.mk.injEq] at e0 e1 e2 e3
        have t0 := hf 0 f0 g0
        have t1 := hf 1 f1 g1
        have t2 := hf 2 f2 g2
        have t3 := hf 3 f3 g3
        rw [e0.1, e0.2, hci] at t0
        rw [e1.1, e1.2, hci] at t1
        rw [e2.1, e2.2, hci] at t2
        rw [e3.1, e3.2, hcs] at t3
        simp only [List.drop_zero, List.take_succ_cons, List.take_zero, List.drop_succ_cons, List.getElem?_cons_zero, List.getElem?_cons_succ] at t0 t1 t2 t3
        obtain ⟨k, ek, _, wk⟩ := DataW.trod_int hI t0
        obtain ⟨a, ea, _, wa⟩ := DataW.trod_int hI t1
        obtain ⟨v, ev, _, wv⟩ := DataW.trod_int hI t2
        cases ek
        cases ea
        cases ev
        rcases DataW.trod_slice hS t3 with ⟨es, _⟩ | ⟨b, len, cap, elems, rest, n', hn', es, ex3, _, hl, hm, hel, hat', _⟩
        · cases es
          refine ⟨.mk k a v [], Pd.R.of (p := .mk k a v []) (A := none) (cap := 0) RowF.nil, by simp only [Pd.in64, Pd.in64L, and_true]; exact ⟨fit64 wk, fit64 wa, fit64 wv⟩, ?_⟩
          rw [Pd.size, Pd.sizeL, h2]
          simp only [Rows.uptoBulk]
          omega
        · cases es
          have hel2 : ∀ i, i < len → ∃ p : Pd.T, (∃ cs', cs'.length = 4 ∧ CellsF (cellsW W) b (i * 4) cs' ∧ Pd.R (cellsW W) p cs') ∧ Pd.in64 p ∧ ∀ e, elems[i]? = some e → Pd.size p ≤ Rows.uptoBulk e.1 := fun i hi => by
            have h1 := hat' i hi
            rw [List.getElem?_eq_getElem (by omega), Option.bind_eq_some_iff] at h1
            obtain ⟨cs', h3, h4⟩ := h1
            obtain ⟨p, h5, h6, h7⟩ := open26 t tS fs hT hS ti hI hfs hc hci hcs N n' cs' _ (by omega) h4
            obtain ⟨_, h8, h9⟩ := World.cells?_some h3
            rw [hc] at h8 h9
            refine ⟨p, ⟨cs', by omega, cellsF_of cs' _ fun j u hj => ?_, h5⟩, h6, fun e he => ?_⟩
            · have := h9 j (by have := (List.getElem?_eq_some_iff.1 hj).1; omega)
              rw [add_of_add] at this
              exact this.trans hj
            · rw [List.getElem?_eq_getElem (by omega)] at he
              cases he
              exact h7
          obtain ⟨l, hll, hl2⟩ := list_of hel2
          subst hll
          have hrow : Pd.Row (cellsW W) (.slice (some b) l.length cap) l := ⟨⟨some b, cap, rfl, hl, by simp⟩, fun i p hp => by
            obtain ⟨⟨cs', h3, h4, h5⟩, _⟩ := hl2 i p hp
            exact ⟨cs', h5, h3, h4⟩⟩
          refine ⟨.mk k a v l, Pd.R.of (p := .mk k a v l) (A := some b) (cap := cap) hrow, ?_, ?_⟩
          · simp only [Pd.in64, Pd.in64L_iff]
            refine ⟨⟨fit64 wk, fit64 wa, fit64 wv⟩, fun p hp => ?_⟩
            obtain ⟨i, hi⟩ := List.getElem?_of_mem hp
            exact (hl2 i p hi).2.1
          · have hb := bulk_le l elems hel.symm fun i p e hp he => (hl2 i p hp).2.2 e he
            have e3' : x3.1 = .slice (elems.map (·.1)) (rest.map (·.1)) := by rw [ex3]
            rw [Pd.size, h2]
            simp only [List.map_cons, List.map_nil, Rows.uptoBulk, Rows.uptoBulkAll, e3']
            omega
end
end Go.Proofs.YtaolcaggdddkpaaGreat
