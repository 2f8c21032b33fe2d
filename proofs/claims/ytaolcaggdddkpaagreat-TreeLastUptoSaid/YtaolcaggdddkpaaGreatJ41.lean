/-
  Policies: which may be, by the document. (Printed by gen_po6.py.); TreeLast, walked.
-/
import Derived.Test.YtaolcaggdddkpaaGreatJ38
import Derived.Test.YtaolcaggdddkpaaGreatJ39
import Derived.Test.YtaolcaggdddkpaaGreatJ40
import Derived.Test.YtaolcaggdddkpaaGreatJ35
import Derived.Test.YtaolcaggdddkpaaGreatJ37
namespace Go.Proofs.YtaolcaggdddkpaaGreat
open Go.Sx
set_option maxRecDepth 20000
set_option linter.unusedSimpArgs false
set_option linter.unusedVariables false
set_option maxHeartbeats 4000000
set_option linter.unusedVariables false
section
variable (F : Heap)
theorem fits27_z (k : Int) (hk : ¬ (k = 1 ∨ k = 2 ∨ k = 3 ∨ k = 4 ∨ k = 5)) (pk pf pv : Int) (pl : List Pd.T) (f v : Int) (l : List Po.T) (pu u : Value) (tp : Int) (nb rb : Bool) (htp : Pd.top f = tp) (hnb : Pd.same (.mk pk pf pv pl) Po.noneP = nb) (hrb : Pd.right (.mk pk pf pv pl) = rb) (hu : Po.Row F u l) (hok : SlOk u l.length) (hpok : SlOk pu pl.length) (hln : l.length ≤ 4611686018427387904)
    (ih : ∀ x ∈ l, ∀ pA A, Po.At F x pA A → NCall Tryz.prog 36 [.agg (Po.cs x pA A)] [hpB F] fun r m => r = .bool (Po.fits x) ∧ m = [hpB F])
    (ct : NCall Tryz.prog 47 [.int .i64 f] [] fun r _ => r = .int .i64 tp)
    (cr : NCall Tryz.prog 67 [.agg [.int .i64 pk, .int .i64 pf, .int .i64 pv, .hs pu pl.length]] [hpB F] fun r m => r = .bool rb ∧ m = [hpB F])
    (cn : NCall Tryz.prog 68 [.agg [.int .i64 pk, .int .i64 pf, .int .i64 pv, .hs pu pl.length], .agg [.int .i64 0, .int .i64 0, .int .i64 0, .hs (.slice none 0 0) 0]] [hpB F] fun r m => r = .bool nb ∧ m = [hpB F]) :
    NCall Tryz.prog 36 [.agg [.int .i64 k, .int .i64 pk, .int .i64 pf, .int .i64 pv, .hs pu pl.length, .int .i64 f, .int .i64 v, .hs u l.length]] [hpB F] fun r m => r = .bool (Po.shape k (.mk pk pf pv pl) f v l.length && Po.fitsL l) ∧ MemFits m [hpB F] := by
  have hfl := Po.fitsL_iff l
  have hsh : Po.shape k (.mk pk pf pv pl) f v l.length = decide ((k : Int) = 1 ∧ rb = true ∧ (f = 0 ∧ v = 0) ∧ l.length = 0 ∨ (k : Int) = 2 ∧ nb = true ∧ (0 ≤ f ∧ f ≤ 4) ∧ (0 ≤ v ∧ v ≤ tp) ∧ l.length = 0 ∨ ((k : Int) = 3 ∨ (k : Int) = 4) ∧ nb = true ∧ (f = 0 ∧ v = 0) ∧ 2 ≤ l.length ∧ l.length ≤ 8 ∨ (k : Int) = 5 ∧ rb = true ∧ (f = 0 ∧ v = 0) ∧ l.length = 2) := by rw [← htp, ← hnb, ← hrb]; rfl
  clear htp hnb hrb
  refine ncall_of Tryz.func36 rfl (by decide) ?_
  rw [show Po.shape k (.mk pk pf pv pl) f v l.length = false by rw [hsh]; exact decide_eq_false (by omega)]
  clear hsh hfl ih
  rw [Bool.false_and]
  by_cases hk0 : k < 1
  · (repeat' (first|(with_reducible first|(refine hK _ _ ?_;clear hK K)|(refine hA ?_;clear hA hB A B)|(refine hK _ ?_;clear hK K))|((with_reducible refine gO ?_);(first|((with_reducible first|refine z25 ?_|refine z26 ?_);intro K hK;(conv=>whnf))|(with_reducible refine z0 ?_)))|((first|((with_reducible refine gI ?_);(first|((with_reducible refine NIf.decY ?s ?_);case s=>assumption)|((with_reducible refine NIf.yes ?s ?_);case s=>rfl)))|((with_reducible refine gN ?_);(with_reducible refine NN.a5 ?_))|((with_reducible refine gH ?_);((with_reducible refine NH.mk ?s ?_);case s=>(and_intros<;>first|with_reducible rfl|omega))))<;>(conv=>whnf))|((with_reducible refine gX ?_);(first|(with_reducible first|refine z3 ?_|refine z4 ?_|refine z8 ?_)|((with_reducible refine z29 ?_);intro A B hA hB;(conv=>whnf))))|(with_reducible first|refine z1 ?_|refine z2 ?_|refine z12 ?_)|((with_reducible refine gR ?_);((refine z31 rfl ?_);intro K hK;(conv=>whnf)))|((with_reducible refine gF ?_);((refine z33 rfl ?_);intro K hK;(conv=>whnf)))|((intro _;skip)<;>(conv=>whnf))))
    all_goals first
      | exact ⟨rfl, MemFits.pre 1 rfl⟩
      | (exfalso; omega)
  · (repeat' (first|(with_reducible first|(refine hK _ _ ?_;clear hK K)|(refine hA ?_;clear hA hB A B)|(refine hK _ ?_;clear hK K))|((with_reducible refine gO ?_);(first|((with_reducible first|refine z25 ?_|refine z26 ?_);intro K hK;(conv=>whnf))|(with_reducible refine z0 ?_)))|((first|((with_reducible refine gI ?_);(first|((with_reducible refine NIf.decY ?s ?_);case s=>omega)|((with_reducible refine NIf.decN ?s ?_);case s=>assumption)|((with_reducible refine NIf.yes ?s ?_);case s=>rfl)))|((with_reducible refine gN ?_);(with_reducible refine NN.a5 ?_))|((with_reducible refine gH ?_);((with_reducible refine NH.mk ?s ?_);case s=>(and_intros<;>first|with_reducible rfl|omega))))<;>(conv=>whnf))|((with_reducible refine gX ?_);(first|(with_reducible first|refine z3 ?_|refine z4 ?_|refine z8 ?_)|((with_reducible refine z29 ?_);intro A B hA hB;(conv=>whnf))))|(with_reducible first|refine z1 ?_|refine z2 ?_|refine z12 ?_)|((with_reducible refine gR ?_);((refine z31 rfl ?_);intro K hK;(conv=>whnf)))|((with_reducible refine gF ?_);((refine z33 rfl ?_);intro K hK;(conv=>whnf)))|((intro _;skip)<;>(conv=>whnf))))
    all_goals first
      | exact ⟨rfl, MemFits.pre 1 rfl⟩
      | (exfalso; omega)
theorem fits27_c : ∀ (n : Nat) (x : Po.T) (pu u : Value), Po.tot x ≤ n → Po.tot x ≤ 4611686018427387904 → Po.At F x pu u →
    NCall Tryz.prog 36 [.agg (Po.cs x pu u)] [hpB F] fun r m => r = .bool (Po.fits x) ∧ m = [hpB F]
  | 0, x, pu, u, hn, _, _ => absurd (Po.tot_pos x) (by omega)
  | n + 1, ⟨k, ⟨pk, pf, pv, pl⟩, f, v, l⟩, pu, u, hn, hs, hx => by
    refine NCall.fits (K := fun r m => r = .bool (Po.fits (.mk k (.mk pk pf pv pl) f v l)) ∧ MemFits m [hpB F]) ?_ fun r m' h => ⟨r, _, rfl, h.2, h.1, rfl⟩
    have hll := Po.length_le l
    have e2 := Po.tot_mk k (.mk pk pf pv pl) f v l
    have ih : ∀ x ∈ l, ∀ pA A, Po.At F x pA A → NCall Tryz.prog 36 [.agg (Po.cs x pA A)] [hpB F] fun r m => r = .bool (Po.fits x) ∧ m = [hpB F] := fun x hx pA A hA => fits27_c n x pA A (by have := Po.tot_lt (k := k) (q := .mk pk pf pv pl) (f := f) (v := v) hx; omega) (by have := Po.tot_lt (k := k) (q := .mk pk pf pv pl) (f := f) (v := v) hx; omega) hA
    have ct := reftop26_c f
    have cr := refright26_c F (.mk pk pf pv pl) pu (by omega) hx.p
    have cn := refsame26_c F _ (.mk pk pf pv pl) Po.noneP pu (.slice none 0 0) (Nat.le_refl _) (by omega) (by decide +kernel) hx.p RowF.nil
    rw [Po.fits, po_cs]
    by_cases hk : k = 1 ∨ k = 2 ∨ k = 3 ∨ k = 4 ∨ k = 5
    · rcases hk with rfl | rfl | rfl | rfl | rfl
      · exact fits27_1 F pk pf pv pl f v l pu u _ _ _ rfl rfl rfl hx.l hx.l.ok hx.p.ok (by omega) ih ct cr cn
      · exact fits27_2 F pk pf pv pl f v l pu u _ _ _ rfl rfl rfl hx.l hx.l.ok hx.p.ok (by omega) ih ct cr cn
      · exact fits27_3 F pk pf pv pl f v l pu u _ _ _ rfl rfl rfl hx.l hx.l.ok hx.p.ok (by omega) ih ct cr cn
      · exact fits27_4 F pk pf pv pl f v l pu u _ _ _ rfl rfl rfl hx.l hx.l.ok hx.p.ok (by omega) ih ct cr cn
      · exact fits27_5 F pk pf pv pl f v l pu u _ _ _ rfl rfl rfl hx.l hx.l.ok hx.p.ok (by omega) ih ct cr cn
    · exact fits27_z F k hk pk pf pv pl f v l pu u _ _ _ rfl rfl rfl hx.l hx.l.ok hx.p.ok (by omega) ih ct cr cn
theorem refright27_c (x : Po.T) (pu u : Value) (hs : Po.tot x ≤ 4611686018427387904) (hx : Po.At F x pu u) : NCall Tryz.prog 15 [.agg (Po.cs x pu u)] [hpB F] fun r m => r = .bool (Po.right x) ∧ m = [hpB F] := by
  refine NCall.fits (K := fun r m => r = .bool (Po.right x) ∧ MemFits m [hpB F]) ?_ fun r m' h => ⟨r, _, rfl, h.2, h.1, rfl⟩
  have c1 := refsize27_c F _ x pu u (Nat.le_refl _) hs hx
  have c2 := refdeep27_c F _ x pu u (Nat.le_refl _) hs hx
  have c3 := refwide27_c F _ x pu u (Nat.le_refl _) hs hx
  have c4 := fits27_c F _ x pu u (Nat.le_refl _) hs hx
  have hd := Po.deep_tot x
  have hz := Po.size_tot x
  have hwd := Po.wide_le x
  have hok := hx.l.ok
  have hpok := hx.p.ok
  unfold Po.right
  generalize Po.fits x = fb at *
  generalize Po.size x = sz at *
  generalize Po.deep x = dp at *
  generalize Po.wide x = wd at *
  simp only [Po.cs] at *
  clear hx
  refine ncall_of Tryz.func15 rfl (by decide) ?_
  cases fb
  · (repeat' (first|(with_reducible first|(refine hK _ _ ?_;clear hK K)|(refine hK _ ?_;clear hK K))|((with_reducible refine gO ?_);(first|((with_reducible first|refine z25 ?_|refine z26 ?_);intro K hK;(conv=>whnf))|(with_reducible refine z0 ?_)))|((first|((with_reducible refine gI ?_);(((with_reducible refine NIf.no ?s ?_);case s=>rfl)))|((with_reducible refine gH ?_);((with_reducible refine NH.mk ?s ?_);case s=>(and_intros<;>with_reducible rfl)))|((with_reducible refine gC ?_);((with_reducible refine NCall.isF 36 ?_);refine NCall.subE [0] (c4) rfl (by decide) rfl rfl ?_)))<;>(conv=>whnf))|((with_reducible refine gX ?_);((with_reducible first|refine z3 ?_|refine z4 ?_|refine z8 ?_)))|(with_reducible first|refine z1 ?_|refine z2 ?_)|((with_reducible refine gR ?_);((refine z31 rfl ?_);intro K hK;(conv=>whnf)))|((with_reducible refine gF ?_);((refine z33 rfl ?_);intro K hK;(conv=>whnf)))|((intro _;skip)<;>(conv=>whnf))))
    all_goals first
      | (exfalso; omega)
      | exact ⟨by simp, MemFits.pre 1 rfl⟩
  by_cases h1 : dp ≤ 8
  · by_cases h2 : sz ≤ 64
    · by_cases h3 : wd ≤ 64
      · (repeat' (first|(with_reducible first|(refine hK _ _ ?_;clear hK K)|(refine hK _ ?_;clear hK K))|((with_reducible refine gO ?_);(first|((with_reducible first|refine z25 ?_|refine z26 ?_);intro K hK;(conv=>whnf))|(with_reducible refine z0 ?_)))|((first|((with_reducible refine gI ?_);(first|((with_reducible refine NIf.decY ?s ?_);case s=>omega)|((with_reducible refine NIf.yes ?s ?_);case s=>rfl)))|((with_reducible refine gH ?_);((with_reducible refine NH.mk ?s ?_);case s=>(and_intros<;>with_reducible rfl)))|((with_reducible refine gC ?_);(first|((with_reducible refine NCall.isF 36 ?_);refine NCall.subE [0] (c4) rfl (by decide) rfl rfl ?_)|((with_reducible refine NCall.isF 22 ?_);refine NCall.subE [0] (c1) rfl (by decide) rfl rfl ?_)|((with_reducible refine NCall.isF 37 ?_);refine NCall.subE [0] (c2) rfl (by decide) rfl rfl ?_)|((with_reducible refine NCall.isF 38 ?_);refine NCall.subE [0] (c3) rfl (by decide) rfl rfl ?_))))<;>(conv=>whnf))|((with_reducible refine gX ?_);((with_reducible first|refine z3 ?_|refine z4 ?_|refine z8 ?_)))|(with_reducible first|refine z1 ?_|refine z2 ?_)|((with_reducible refine gR ?_);((refine z31 rfl ?_);intro K hK;(conv=>whnf)))|((with_reducible refine gF ?_);((refine z33 rfl ?_);intro K hK;(conv=>whnf)))|((intro _;skip)<;>(conv=>whnf))))
        all_goals first
          | (exfalso; omega)
          | (refine ⟨?_, MemFits.pre 1 rfl⟩; congr 1; simp [h1, h2, h3] <;> omega)
      · (repeat' (first|(with_reducible first|(refine hK _ _ ?_;clear hK K)|(refine hK _ ?_;clear hK K))|((with_reducible refine gO ?_);(first|((with_reducible first|refine z25 ?_|refine z26 ?_);intro K hK;(conv=>whnf))|(with_reducible refine z0 ?_)))|((first|((with_reducible refine gI ?_);(first|((with_reducible refine NIf.decY ?s ?_);case s=>omega)|((with_reducible refine NIf.yes ?s ?_);case s=>rfl)))|((with_reducible refine gH ?_);((with_reducible refine NH.mk ?s ?_);case s=>(and_intros<;>with_reducible rfl)))|((with_reducible refine gC ?_);(first|((with_reducible refine NCall.isF 36 ?_);refine NCall.subE [0] (c4) rfl (by decide) rfl rfl ?_)|((with_reducible refine NCall.isF 22 ?_);refine NCall.subE [0] (c1) rfl (by decide) rfl rfl ?_)|((with_reducible refine NCall.isF 37 ?_);refine NCall.subE [0] (c2) rfl (by decide) rfl rfl ?_)|((with_reducible refine NCall.isF 38 ?_);refine NCall.subE [0] (c3) rfl (by decide) rfl rfl ?_))))<;>(conv=>whnf))|((with_reducible refine gX ?_);((with_reducible first|refine z3 ?_|refine z4 ?_|refine z8 ?_)))|(with_reducible first|refine z1 ?_|refine z2 ?_)|((with_reducible refine gR ?_);((refine z31 rfl ?_);intro K hK;(conv=>whnf)))|((with_reducible refine gF ?_);((refine z33 rfl ?_);intro K hK;(conv=>whnf)))|((intro _;skip)<;>(conv=>whnf))))
        all_goals first
          | (exfalso; omega)
          | (refine ⟨?_, MemFits.pre 1 rfl⟩; congr 1; simp [h3] <;> omega)
    · (repeat' (first|(with_reducible first|(refine hK _ _ ?_;clear hK K)|(refine hK _ ?_;clear hK K))|((with_reducible refine gO ?_);(first|((with_reducible first|refine z25 ?_|refine z26 ?_);intro K hK;(conv=>whnf))|(with_reducible refine z0 ?_)))|((first|((with_reducible refine gI ?_);(first|((with_reducible refine NIf.decY ?s ?_);case s=>omega)|((with_reducible refine NIf.decN ?s ?_);case s=>omega)|((with_reducible refine NIf.yes ?s ?_);case s=>rfl)))|((with_reducible refine gH ?_);((with_reducible refine NH.mk ?s ?_);case s=>(and_intros<;>with_reducible rfl)))|((with_reducible refine gC ?_);(first|((with_reducible refine NCall.isF 36 ?_);refine NCall.subE [0] (c4) rfl (by decide) rfl rfl ?_)|((with_reducible refine NCall.isF 37 ?_);refine NCall.subE [0] (c2) rfl (by decide) rfl rfl ?_)|((with_reducible refine NCall.isF 22 ?_);refine NCall.subE [0] (c1) rfl (by decide) rfl rfl ?_))))<;>(conv=>whnf))|((with_reducible refine gX ?_);((with_reducible first|refine z3 ?_|refine z4 ?_|refine z8 ?_)))|(with_reducible first|refine z1 ?_|refine z2 ?_)|((with_reducible refine gR ?_);((refine z31 rfl ?_);intro K hK;(conv=>whnf)))|((with_reducible refine gF ?_);((refine z33 rfl ?_);intro K hK;(conv=>whnf)))|((intro _;skip)<;>(conv=>whnf))))
      all_goals first
        | (exfalso; omega)
        | (refine ⟨?_, MemFits.pre 1 rfl⟩; congr 1; simp [h2] <;> omega)
  · (repeat' (first|(with_reducible first|(refine hK _ _ ?_;clear hK K)|(refine hK _ ?_;clear hK K))|((with_reducible refine gO ?_);(first|((with_reducible first|refine z25 ?_|refine z26 ?_);intro K hK;(conv=>whnf))|(with_reducible refine z0 ?_)))|((first|((with_reducible refine gI ?_);(first|((with_reducible refine NIf.decN ?s ?_);case s=>omega)|((with_reducible refine NIf.yes ?s ?_);case s=>rfl)|((with_reducible refine NIf.no ?s ?_);case s=>rfl)))|((with_reducible refine gH ?_);((with_reducible refine NH.mk ?s ?_);case s=>(and_intros<;>with_reducible rfl)))|((with_reducible refine gC ?_);(first|((with_reducible refine NCall.isF 36 ?_);refine NCall.subE [0] (c4) rfl (by decide) rfl rfl ?_)|((with_reducible refine NCall.isF 37 ?_);refine NCall.subE [0] (c2) rfl (by decide) rfl rfl ?_))))<;>(conv=>whnf))|((with_reducible refine gX ?_);((with_reducible first|refine z3 ?_|refine z4 ?_|refine z8 ?_)))|(with_reducible first|refine z1 ?_|refine z2 ?_)|((with_reducible refine gR ?_);((refine z31 rfl ?_);intro K hK;(conv=>whnf)))|((with_reducible refine gF ?_);((refine z33 rfl ?_);intro K hK;(conv=>whnf)))|((intro _;skip)<;>(conv=>whnf))))
    all_goals first
      | (exfalso; omega)
      | (refine ⟨?_, MemFits.pre 1 rfl⟩; congr 1; simp [h1] <;> omega)
end
end Go.Proofs.YtaolcaggdddkpaaGreat
namespace Go.Proofs.YtaolcaggdddkpaaGreat
open Go.Sx
set_option maxRecDepth 20000
set_option linter.unusedSimpArgs false
set_option linter.unusedVariables false
set_option maxHeartbeats 8000000
set_option linter.unusedVariables false
namespace Tr
/-- What the cases of a policy that may be are like. -/
theorem all_facts (sw : Int) (x : Po.T) (hr : Po.right x = true) (hf : few x = true) :
    1 ≤ (all sw x).length ∧ (all sw x).length ≤ 300 ∧ (∃ O, (all sw x)[(all sw x).length - 1]? = some ⟨start, O⟩) ∧ (∀ (i j : Nat) (c d : C), (all sw x)[i]? = some c → (all sw x)[j]? = some d → j < i → c.s ≠ d.s) ∧ ∀ c ∈ all sw x, Po.both [] c.out = c.out ∧ c.out.length ≤ 64 := by
  have hxf := Po.right_fits' hr
  have hyf := Po.spec_fits sw x hxf
  have hyr := Po.spec_right sw x hr
  have hc := few_cnt sw x hxf
  have h3 := (few_iff hf).1
  have hl := cases_len sw (Po.spec sw x) order start
  have hne := cases_ne sw (Po.spec sw x) order start
  have hv0 : ∀ f, ∀ v ∈ Po.values f (Po.spec sw x), 0 ≤ v := fun f v hv => (Po.vals_top f _ hyf v ((Po.values_mem f _ v).1 hv)).1
  have hdis := cases_distinct sw (Po.spec sw x) hv0 order start (fun f h => mem_order.1 h) (by decide) (fun f _ => by
    unfold gt start
    repeat' split
    all_goals rfl)
  obtain ⟨l0, hlast⟩ := cases_last sw (Po.spec sw x) start order
  refine ⟨hne, by unfold all; omega, ⟨outs sw (Po.spec sw x) start, ?_⟩, fun i j c d hi hj hlt e => ?_, fun c hcm => ⟨?_, ?_⟩⟩
  · unfold all
    rw [hlast]
    simp
  · unfold all at hi hj
    obtain ⟨h1, rfl⟩ := List.getElem?_eq_some_iff.1 hi
    obtain ⟨h2, rfl⟩ := List.getElem?_eq_some_iff.1 hj
    exact List.pairwise_iff_getElem.1 hdis j i h2 h1 hlt e.symm
  · exact Po.rising_eq (Po.both_rising _ List.Pairwise.nil) (cases_rising sw _ order start c hcm) fun t => by rw [Po.mem_both]; simp
  · exact cases_out_len sw _ 64 (fun s => Po.runs_64 sw _ hyr s) order start c hcm
end Tr
theorem plast31_c (F : Heap) (x : Po.T) (pu u : Value) (sw : Int) (hs : Po.tot x ≤ 1000000000) (hx : Po.At F x pu u) :
    NCall Tryz.prog 4 [.agg (Po.cs x pu u), .int .i64 sw] [hpB F] fun r _ => r = .bool true := by
  have hok := hx.l.ok
  have hpok := hx.p.ok
  have cw := fun G => awake31_c G
  have cR := refright27_c F x pu u (by omega) hx
  have cF := few31_c F x pu u hs hx
  by_cases hr : Po.right x = true
  rotate_left
  · have hr : Po.right x = false := by simpa using hr
    rw [hr] at cR
    have cw := cw F
    clear hx hr
    obtain ⟨k, ⟨pk, pf, pv, pl⟩, a, v, l⟩ := x
    simp only [po_cs, Po.T.l, Po.T.p, Pd.T.k, Pd.T.f, Pd.T.v, Pd.T.l] at *
    refine ncall_of Tryz.func4 rfl (by decide) ?_
    (repeat' (first|(with_reducible first|(refine hK _ _ ?_;clear hK K)|(refine hA ?_;clear hA hB A B)|(refine hK _ ?_;clear hK K))|((with_reducible refine gO ?_);(first|((with_reducible first|refine z25 ?_|refine z26 ?_);intro K hK;(conv=>whnf))|(with_reducible refine z0 ?_)))|((first|((with_reducible refine gI ?_);(first|with_reducible refine NIf.not_ ?_|((with_reducible refine NIf.yes ?s ?_);case s=>rfl)|((with_reducible refine NIf.no ?s ?_);case s=>rfl)))|((with_reducible refine gH ?_);((with_reducible refine NH.mk ?s ?_);case s=>(and_intros<;>with_reducible rfl)))|((with_reducible refine gC ?_);(first|((with_reducible refine NCall.isF 15 ?_);refine NCall.subE [0] (cR) rfl (by decide) rfl rfl ?_)|((with_reducible refine NCall.isF 7 ?_);refine NCall.subE [0] (cw) rfl (by decide) rfl rfl ?_))))<;>(conv=>whnf))|((with_reducible refine gX ?_);(first|(with_reducible first|refine z3 ?_|refine z4 ?_|refine z8 ?_)|((with_reducible refine z29 ?_);intro A B hA hB;(conv=>whnf))))|(with_reducible first|refine z1 ?_|refine z2 ?_|refine z12 ?_)|((with_reducible refine gR ?_);((refine z31 rfl ?_);intro K hK;(conv=>whnf)))|((with_reducible refine gF ?_);((refine z33 rfl ?_);intro K hK;(conv=>whnf)))|((intro _;skip)<;>(conv=>whnf))))
    all_goals rfl
  by_cases hfw : Tr.few x = true
  rotate_left
  · have hfw : Tr.few x = false := by simpa using hfw
    rw [hr] at cR
    rw [hfw] at cF
    have cw := cw F
    clear hx hr hfw
    obtain ⟨k, ⟨pk, pf, pv, pl⟩, a, v, l⟩ := x
    simp only [po_cs, Po.T.l, Po.T.p, Pd.T.k, Pd.T.f, Pd.T.v, Pd.T.l] at *
    refine ncall_of Tryz.func4 rfl (by decide) ?_
    (repeat' (first|(with_reducible first|(refine hK _ _ ?_;clear hK K)|(refine hA ?_;clear hA hB A B)|(refine hK _ ?_;clear hK K))|((with_reducible refine gO ?_);(first|((with_reducible first|refine z25 ?_|refine z26 ?_);intro K hK;(conv=>whnf))|(with_reducible refine z0 ?_)))|((first|((with_reducible refine gI ?_);(first|with_reducible refine NIf.not_ ?_|((with_reducible refine NIf.yes ?s ?_);case s=>rfl)|((with_reducible refine NIf.no ?s ?_);case s=>rfl)))|((with_reducible refine gH ?_);((with_reducible refine NH.mk ?s ?_);case s=>(and_intros<;>with_reducible rfl)))|((with_reducible refine gC ?_);(first|((with_reducible refine NCall.isF 15 ?_);refine NCall.subE [0] (cR) rfl (by decide) rfl rfl ?_)|((with_reducible refine NCall.isF 6 ?_);refine NCall.subE [0] (cF) rfl (by decide) rfl rfl ?_)|((with_reducible refine NCall.isF 7 ?_);refine NCall.subE [0] (cw) rfl (by decide) rfl rfl ?_))))<;>(conv=>whnf))|((with_reducible refine gX ?_);(first|(with_reducible first|refine z3 ?_|refine z4 ?_|refine z8 ?_)|((with_reducible refine z29 ?_);intro A B hA hB;(conv=>whnf))))|(with_reducible first|refine z1 ?_|refine z2 ?_|refine z12 ?_)|((with_reducible refine gR ?_);((refine z31 rfl ?_);intro K hK;(conv=>whnf)))|((with_reducible refine gF ?_);((refine z33 rfl ?_);intro K hK;(conv=>whnf)))|((intro _;skip)<;>(conv=>whnf))))
    all_goals rfl
  rw [hr] at cR
  rw [hfw] at cF
  have hxf := Po.right_fits' hr
  have cm := mine27_c _ F x pu u (Nat.le_refl _) (by omega) hx
  have hce := Nat.le_trans (Tr.few_cells sw x hxf 5) (Tr.few_iff hfw).1
  have hcn := Nat.le_trans (Tr.few_cnt sw x hxf) (Tr.few_iff hfw).1
  have cC := fun G a b (h : Po.At G x a b) => Cases31_c G x a b sw hs h (fun _ => Nat.le_trans hce (by decide)) (fun _ => Nat.le_trans hcn (by decide))
  have hans : Tr.ans sw x = (Tr.all sw x, 0) := by unfold Tr.ans; rw [if_pos hr]
  rw [hans] at cC
  obtain ⟨hn1, hn2, ⟨O, hlast⟩, hdis, hout⟩ := Tr.all_facts sw x hr hfw
  generalize Tr.all sw x = C at *
  clear hr hfw hx hxf hce hcn hans
  have en : ((C.length : Int) - 1).toNat = C.length - 1 := by omega
  have cC := fun G a b (h : Po.At G x a b) => (cC G a b h).mono (K' := fun r m => ∃ F' v A cap, G.le F' ∧ Tr.Row F' v C ∧ SlOk v C.length ∧ F'.c ((addrOf v).add (((C.length : Int) - 1).toNat * 6)) (.int .i64 (-1)) ∧ F'.c ((addrOf v).add (((C.length : Int) - 1).toNat * 6 + 1)) (.int .i64 (-1)) ∧ F'.c ((addrOf v).add (((C.length : Int) - 1).toNat * 6 + 2)) (.int .i64 (-1)) ∧ F'.c ((addrOf v).add (((C.length : Int) - 1).toNat * 6 + 3)) (.int .i64 (-1)) ∧ F'.c ((addrOf v).add (((C.length : Int) - 1).toNat * 6 + 4)) (.int .i64 (-1)) ∧ F'.c ((addrOf v).add (((C.length : Int) - 1).toNat * 6 + 5)) (.slice A O.length cap) ∧ SlOk (.slice A O.length cap) O.length ∧ r = .tup [.hs v C.length, .int .i64 0] ∧ m = [hpB F']) fun r m ⟨F', v, h1, h2, h3, h4⟩ => by
    obtain ⟨A, cap, hA, c0, c1, c2, c3, c4, c5⟩ := h2.get hlast
    rw [en]
    exact ⟨F', v, A, cap, h1, h2, h2.ok, c0, c1, c2, c3, c4, c5, hA.ok, h3, h4⟩
  obtain ⟨k, ⟨pk, pf, pv, pl⟩, a, v, l⟩ := x
  simp only [po_cs, Po.Lays, Po.T.l, Po.T.p, Pd.T.k, Pd.T.f, Pd.T.v, Pd.T.l] at *
  refine ncall_of Tryz.func4 rfl (by decide) ?_
  (repeat' (first|(with_reducible first|(refine hK _ _ ?_;clear hK K)|(refine hB ?_;clear hA hB A B)|(refine hK _ ?_;clear hK K))|((with_reducible refine gO ?_);(first|((with_reducible first|refine z25 ?_|refine z26 ?_);intro K hK;(conv=>whnf))|(with_reducible refine z0 ?_)))|((first|((with_reducible refine gV ?_);(((with_reducible refine NV.i64 ?s ?_);case s=>omega)))|((with_reducible refine gI ?_);(first|(((with_reducible refine NIf.no ?s ?_);case s=>(simp ;done)))|((with_reducible refine NIf.decN ?s ?_);case s=>omega)))|((with_reducible refine gN ?_);(with_reducible first|refine NN.a6 ?_|refine NN.keep ?_))|((with_reducible refine gH ?_);((with_reducible refine NH.mk ?s ?_);case s=>(and_intros<;>first|with_reducible rfl|omega)))|((with_reducible refine gC ?_);(first|((with_reducible refine NCall.isF 15 ?_);refine NCall.subE [0] (cR) rfl (by decide) rfl rfl ?_)|((with_reducible refine NCall.isF 6 ?_);refine NCall.subE [0] (cF) rfl (by decide) rfl rfl ?_)|((with_reducible refine NCall.isF 9 ?_);refine NCall.subw [0] _ _ (cm) rfl (by decide) rfl ?_; rintro _ _ ⟨F1, a1, u1, hle1, hu1, rfl, rfl⟩; refine ⟨Nat.le_of_ble_eq_true rfl, _, rfl, ?_⟩)|((with_reducible refine NCall.isF 8 ?_);refine NCall.subw [0] _ _ (cC F1 a1 u1 hu1) rfl (by decide) rfl ?_; rintro _ _ ⟨F2, w, A, cap, hle2, hw, hwo, l0, l1, l2, l3, l4, l5, hAo, rfl, rfl⟩; refine ⟨Nat.le_of_ble_eq_true rfl, _, rfl, ?_⟩)))|(with_reducible refine NLd.of (by with_reducible assumption) ?_))<;>(conv=>whnf))|((with_reducible refine gX ?_);(first|(with_reducible first|refine z3 ?_|refine z4 ?_|refine z5 ?_|refine z6 ?_)|((with_reducible refine z29 ?_);intro A B hA hB;(conv=>whnf))))|(with_reducible first|refine z1 ?_|refine z2 ?_)|((with_reducible refine gF ?_);((refine z33 rfl ?_);intro K hK;(conv=>whnf)))|((refine NFlat_iff.2 ⟨⟨?s1,?s2⟩,?_⟩;(case s1=>decide +kernel);(case s2=>decide +kernel))<;>(conv=>whnf))|((intro _;skip)<;>(conv=>whnf))))
  all_goals first | (exfalso; omega) | skip
  clear cm cC cR cF l0 l1 l2 l3 l4 l5
  refine st_auto (α := Heap × Nat) (fun (G, i) => F2.le G ∧ i ≤ C.length) (fun (G, i) => [.keep, .keep, .keep, .keep, .set (.bool false), .keep, .keep, .set (.int .i64 i), .drop, .drop, .drop, .keep, .keep, .keep, .keep, .keep, .keep, .keep, .keep, .keep, .keep, .keep, .keep, .keep, .keep, .keep, .keep, .keep, .keep, .keep, .keep, .keep, .keep, .keep, .keep, .keep, .keep, .keep, .keep, .keep, .keep, .keep, .keep, .keep, .keep, .keep, .keep, .keep, .keep, .keep, .keep, .keep, .keep, .keep, .keep, .keep, .keep, .keep, .keep, .keep, .drop, .drop, .drop, .drop, .drop, .drop, .drop, .drop, .drop, .drop, .drop, .drop, .drop, .drop, .drop, .drop, .drop, .drop, .drop, .drop, .drop, .drop, .drop, .drop, .drop, .drop, .drop, .drop, .drop, .drop, .drop, .drop, .drop, .drop, .drop, .drop, .drop, .drop, .drop, .drop, .drop, .drop, .drop, .drop, .drop, .drop, .drop, .drop, .drop, .drop, .drop, .drop, .drop, .drop, .drop, .drop, .drop, .drop, .drop, .drop, .drop, .drop, .drop, .keep]) (fun (G, i) => [.set (hpB G)]) (fun (G, i) => C.length - i) (F2, 0) ⟨F2.le_refl, Nat.zero_le _⟩ ?_ (MemFits.eq rfl) ?_
  · repeat (first|exact FitsSl.nil|refine FitsSl.any ?_|refine FitsSl.cons (Fit1.int (by first | rfl | omega)) ?_|refine FitsSl.cons (Fit1.bool rfl) ?_|refine FitsSl.cons (Fit1.same (by intro h; cases h) (by with_reducible rfl)) ?_)
  (intro ⟨G, i⟩ ⟨hle3, hi⟩; intro K hK; (conv=>whnf); refine hK _ _ ?_; clear hK K)
  dsimp only
  by_cases hlt : i < C.length
  · have hx : C[i]? = some C[i] := List.getElem?_eq_getElem hlt
    have hcm := hout _ (List.getElem_mem hlt)
    obtain ⟨A2, cap2, hA2, c0, c1, c2, c3, c4, c5⟩ := (Tr.Row.mono hle3 hw).get hx
    have hdi := fun j d hj hlt => hdis i j _ d hx hj hlt
    clear hdis hlast hout
    generalize C[i] = c at *
    obtain ⟨⟨x0, x1, x2, x3, x4⟩, xo⟩ := c
    dsimp only at hcm hA2 c0 c1 c2 c3 c4 c5 hdi
    obtain ⟨hbo, hxl⟩ := hcm
    have hoA2 := hA2.ok
    (repeat' (first|(with_reducible first|(refine hK _ _ ?_;clear hK K)|(refine hA ?_;clear hA hB A B))|((with_reducible refine gO ?_);(first|((with_reducible refine z25 ?_);intro K hK;(conv=>whnf))|(with_reducible refine z0 ?_)))|((first|((with_reducible refine gI ?_);(((with_reducible refine NIf.decY ?s ?_);case s=>omega)))|((with_reducible refine gH ?_);((with_reducible refine NH.mk ?s ?_);case s=>(and_intros<;>omega))))<;>(conv=>whnf))|((with_reducible refine gX ?_);(first|(with_reducible first|refine z3 ?_|refine z4 ?_|refine z5 ?_|refine z6 ?_)|((with_reducible refine z29 ?_);intro A B hA hB;(conv=>whnf))))|(with_reducible first|refine z1 ?_|refine z2 ?_)))
    refine st_auto (α := Heap × Value × Nat) (fun (H, z, k) => G.le H ∧ k ≤ xo.length ∧ Po.SRow H z (Po.both [] (xo.take k))) (fun (H, z, k) => [.keep, .keep, .keep, .keep, .keep, .keep, .keep, .keep, .set (.hs z (Po.both [] (xo.take k)).length), .set (.int .i64 k), .keep, .keep, .keep, .keep, .keep, .keep, .keep, .keep, .keep, .keep, .keep, .keep, .keep, .keep, .keep, .keep, .keep, .keep, .keep, .keep, .keep, .keep, .keep, .keep, .keep, .keep, .keep, .keep, .keep, .keep, .keep, .keep, .keep, .keep, .keep, .keep, .keep, .keep, .keep, .keep, .keep, .keep, .keep, .keep, .keep, .keep, .keep, .keep, .keep, .keep, .keep, .keep, .keep, .keep, .keep, .keep, .drop, .drop, .drop, .drop, .drop, .drop, .drop, .drop, .drop, .drop, .drop, .drop, .drop, .drop, .drop, .drop, .drop, .drop, .drop, .drop, .keep, .keep, .keep, .keep, .keep, .keep, .keep, .keep, .keep, .keep, .keep, .keep, .keep, .keep, .keep, .keep, .keep, .keep, .keep, .keep, .keep, .keep, .keep, .keep, .keep, .keep, .keep, .keep, .keep, .keep, .keep, .keep, .keep, .keep, .keep, .keep, .keep, .keep]) (fun (H, z, k) => [.set (hpB H)]) (fun (H, z, k) => xo.length - k) (G, .slice none 0 0, 0) ⟨G.le_refl, Nat.zero_le _, RowF.nil⟩ ?_ (MemFits.eq rfl) ?_
    · repeat (first|exact FitsSl.nil|refine FitsSl.any ?_|refine FitsSl.cons (Fit1.nilhs (by  rfl)) ?_|refine FitsSl.cons (Fit1.int (by first | rfl | omega)) ?_|refine FitsSl.cons (Fit1.bool rfl) ?_|refine FitsSl.cons (Fit1.same (by intro h; cases h) (by with_reducible rfl)) ?_)
    (intro ⟨H, z, k⟩ ⟨hle4, hk, hz⟩; intro K hK; (conv=>whnf); refine hK _ _ ?_; clear hK K)
    dsimp only
    have hzo := hz.ok
    have c0 := hle4.c _ _ c0
    have c1 := hle4.c _ _ c1
    have c2 := hle4.c _ _ c2
    have c3 := hle4.c _ _ c3
    have c4 := hle4.c _ _ c4
    have c5 := hle4.c _ _ c5
    have hA3 := Tr.srow_mono hle4 hA2
    by_cases hkt : k < xo.length
    · obtain ⟨g0, g1, g2, g3, g4⟩ := RowF.get5 (f0 := fun s : Po.S => .int .i64 s.port) (f1 := fun s => .int .i64 s.p0) (f2 := fun s => .int .i64 s.p1) (f3 := fun s => .int .i64 s.p2) (f4 := fun s => .int .i64 s.p3) hA3 hkt
      have hln := Po.both_len (xo.take k) []
      rw [List.length_take] at hln
      have cp := put27_c H z (Po.both [] (xo.take k)) xo[k] (by simp only [List.length_nil] at hln; omega) hz
      have hnx := Po.both_take [] hkt
      rw [← hnx] at cp
      generalize Po.both [] (xo.take k) = B at *
      generalize hB2 : Po.both [] (xo.take (k + 1)) = B2 at *
      clear hnx
      generalize xo[k] = y at *
      obtain ⟨y0, y1, y2, y3, y4⟩ := y
      dsimp only [Po.S.av] at *
      (repeat' (first|(with_reducible first|(refine hK _ _ ?_;clear hK K)|(refine hA ?_;clear hA hB A B))|((with_reducible refine gO ?_);(first|((with_reducible refine z25 ?_);intro K hK;(conv=>whnf))|(with_reducible refine z0 ?_)))|((first|((with_reducible refine gV ?_);(((with_reducible refine NV.i64 ?s ?_);case s=>omega)))|((with_reducible refine gI ?_);(((with_reducible refine NIf.decY ?s ?_);case s=>omega)))|((with_reducible refine gN ?_);(with_reducible first|refine NN.cast ?_|refine NN.a6 ?_|refine NN.keep ?_))|((with_reducible refine gH ?_);((with_reducible refine NH.mk ?s ?_);case s=>(and_intros<;>omega)))|((with_reducible refine gC ?_);((with_reducible refine NCall.isF 16 ?_);refine NCall.subw [0] _ _ (cp) rfl (by decide) rfl ?_; rintro _ _ ⟨H2, zq, hle5, hz2, rfl, rfl⟩; refine ⟨Nat.le_of_ble_eq_true rfl, _, rfl, ?_⟩))|(with_reducible refine NLd.of (by with_reducible assumption) ?_))<;>(conv=>whnf))|((with_reducible refine gX ?_);(first|(with_reducible first|refine z3 ?_|refine z4 ?_|refine z5 ?_|refine z6 ?_)|((with_reducible refine z29 ?_);intro A B hA hB;(conv=>whnf))))|(with_reducible first|refine z1 ?_|refine z2 ?_|refine z9 ?_)))
      all_goals
        refine st_round (H2, zq, k + 1) ⟨hle4.trans hle5, hkt, hB2 ▸ hz2⟩ (by show xo.length - (k + 1) < xo.length - k; omega) ?_ (MemFits.eq rfl)
        dsimp only
        rw [hB2]
        repeat (first|exact FitsSl.nil|refine FitsSl.any ?_|refine FitsSl.cons (Fit1.int (by first | rfl | omega)) ?_|refine FitsSl.cons (Fit1.bool rfl) ?_|refine FitsSl.cons (Fit1.same (by intro h; cases h) (by with_reducible rfl)) ?_)
    · have hkl : k = xo.length := by omega
      subst hkl
      rw [List.take_length, hbo] at hz ⊢
      have cs := sent27_c H z (.slice A2 xo.length cap2) xo xo hz hA3 (by omega) (by omega)
      rw [show decide (xo = xo) = true by simp] at cs
      (repeat' (first|(with_reducible first|(refine hK _ _ ?_;clear hK K)|(refine hB ?_;clear hA hB A B))|((with_reducible refine gO ?_);(first|((with_reducible refine z25 ?_);intro K hK;(conv=>whnf))|(with_reducible refine z0 ?_)))|((first|((with_reducible refine gI ?_);(first|with_reducible refine NIf.not_ ?_|((with_reducible refine NIf.decN ?s ?_);case s=>omega)|((with_reducible refine NIf.yes ?s ?_);case s=>rfl)))|((with_reducible refine gN ?_);(with_reducible first|refine NN.cast ?_|refine NN.a6 ?_|refine NN.keep ?_))|((with_reducible refine gH ?_);((with_reducible refine NH.mk ?s ?_);case s=>(and_intros<;>omega)))|((with_reducible refine gC ?_);((with_reducible refine NCall.isF 17 ?_);refine NCall.subE [0] (cs) rfl (by decide) rfl rfl ?_))|(with_reducible refine NLd.of (by with_reducible assumption) ?_))<;>(conv=>whnf))|((with_reducible refine gX ?_);(first|(with_reducible first|refine z3 ?_|refine z4 ?_|refine z5 ?_|refine z6 ?_|refine z7 ?_)|((with_reducible refine z29 ?_);intro A B hA hB;(conv=>whnf))))|(with_reducible first|refine z1 ?_|refine z2 ?_|refine z10 ?_|refine z11 ?_|refine z19 ?_)))
      refine st_auto (α := Nat) (fun k => k ≤ i) (fun k => [.keep, .keep, .keep, .keep, .set (.bool false), .keep, .keep, .keep, .keep, .keep, .set (.int .i64 k), .keep, .keep, .keep, .keep, .keep, .keep, .keep, .keep, .keep, .keep, .keep, .keep, .keep, .keep, .keep, .keep, .keep, .keep, .keep, .keep, .keep, .keep, .keep, .keep, .keep, .keep, .keep, .keep, .keep, .keep, .keep, .keep, .keep, .keep, .keep, .keep, .keep, .keep, .keep, .keep, .keep, .keep, .keep, .keep, .keep, .keep, .keep, .keep, .keep, .keep, .keep, .keep, .keep, .keep, .keep, .keep, .keep, .keep, .keep, .keep, .keep, .keep, .keep, .keep, .keep, .keep, .keep, .keep, .keep, .keep, .keep, .keep, .keep, .keep, .keep, .keep, .keep, .keep, .keep, .keep, .keep, .keep, .keep, .drop, .drop, .drop, .drop, .drop, .drop, .drop, .drop, .drop, .drop, .drop, .drop, .drop, .drop, .drop, .drop, .drop, .drop, .drop, .drop, .drop, .drop, .drop, .drop, .drop, .drop, .drop, .drop, .drop, .keep]) (fun _ => []) (fun k => i - k) 0 (Nat.zero_le _) ?_ (MemFits.eq rfl) ?_
      · repeat (first|exact FitsSl.nil|refine FitsSl.any ?_|refine FitsSl.cons (Fit1.int (by first | rfl | omega)) ?_|refine FitsSl.cons (Fit1.bool rfl) ?_|refine FitsSl.cons (Fit1.same (by intro h; cases h) (by with_reducible rfl)) ?_)
      (intro k hk2; intro K hK; (conv=>whnf); refine hK _ _ ?_; clear hK K)
      by_cases hkt2 : k < i
      · have hy : C[k]? = some (C[k]'(by omega)) := List.getElem?_eq_getElem (by omega)
        obtain ⟨B, cap3, hB, d0, d1, d2, d3, d4, d5⟩ := (Tr.Row.mono (hle3.trans hle4) hw).get hy
        have hne := hdi k _ hy hkt2
        clear hB
        generalize (C[k]'(by omega)) = d at *
        obtain ⟨⟨y0, y1, y2, y3, y4⟩, yo⟩ := d
        dsimp only at hne d0 d1 d2 d3 d4 d5
        by_cases hp : x0 = y0
        · have hnb : (decide (x1 = y1) && (decide (x2 = y2) && (decide (x3 = y3) && (decide (x4 = y4) && true)))) = false := by
            refine Bool.eq_false_iff.2 fun h => hne ?_
            simp only [Bool.and_eq_true, decide_eq_true_eq, and_true] at h
            obtain ⟨rfl, rfl, rfl, rfl⟩ := h
            rw [hp]
          (repeat' (first|(with_reducible first|(refine hK _ _ ?_;clear hK K)|(refine hA ?_;clear hA hB A B)|(refine hB ?_;clear hA hB A B)|(refine hK _ ?_;clear hK K))|((with_reducible refine gO ?_);(first|((with_reducible refine z25 ?_);intro K hK;(conv=>whnf))|(with_reducible refine z0 ?_)))|((first|((with_reducible refine gV ?_);(((with_reducible refine NV.i64 ?s ?_);case s=>omega)))|((with_reducible refine gI ?_);(first|((with_reducible refine NIf.decY ?s ?_);case s=>first|assumption|omega)|((with_reducible refine NIf.no ?s ?_);case s=>assumption)))|((with_reducible refine gN ?_);(with_reducible first|refine NN.cast ?_|refine NN.a6 ?_|refine NN.keep ?_))|((with_reducible refine gH ?_);((with_reducible refine NH.mk ?s ?_);case s=>(and_intros<;>omega)))|(with_reducible refine NLd.of (by with_reducible assumption) ?_))<;>(conv=>whnf))|((with_reducible refine gNRH ?_);((with_reducible refine st_ordRout ?_)))|((with_reducible refine gNOH ?_);(first|(refine st_ordH1 rfl (by kernel_rfl) rfl ?_; intro K hK; (conv=>whnf))|(refine st_ordH1g rfl (by kernel_rfl) rfl ?_; intro K hK; (conv=>whnf))|(refine st_ordH0 rfl (by kernel_rfl) ?_)))|((with_reducible refine gX ?_);(first|(refine st_orderR rfl (by kernel_rfl) _ rfl ?_)|(with_reducible first|refine z3 ?_|refine z4 ?_|refine z5 ?_|refine z6 ?_)|((with_reducible refine z29 ?_);intro A B hA hB;(conv=>whnf))))|(with_reducible first|refine z1 ?_|refine z2 ?_|refine z9 ?_)|((refine NFlat_iff.2 ⟨⟨?s1,?s2⟩,?_⟩;(case s1=>decide +kernel);(case s2=>decide +kernel))<;>(conv=>whnf))))
          all_goals first | (exfalso; omega) | skip
          all_goals
            refine st_round (k + 1) hkt2 (by omega) ?_ (MemFits.eq rfl)
            repeat (first|exact FitsSl.nil|refine FitsSl.any ?_|refine FitsSl.cons (Fit1.int (by first | rfl | omega)) ?_|refine FitsSl.cons (Fit1.bool rfl) ?_|refine FitsSl.cons (Fit1.same (by intro h; cases h) (by with_reducible rfl)) ?_)
        · (repeat' (first|(with_reducible first|(refine hK _ _ ?_;clear hK K)|(refine hA ?_;clear hA hB A B)|(refine hB ?_;clear hA hB A B)|(refine hK _ ?_;clear hK K))|((with_reducible refine gO ?_);(first|((with_reducible refine z25 ?_);intro K hK;(conv=>whnf))|(with_reducible refine z0 ?_)))|((first|((with_reducible refine gV ?_);(((with_reducible refine NV.i64 ?s ?_);case s=>omega)))|((with_reducible refine gI ?_);(first|((with_reducible refine NIf.decY ?s ?_);case s=>omega)|((with_reducible refine NIf.decN ?s ?_);case s=>assumption)|((with_reducible refine NIf.no ?s ?_);case s=>rfl)))|((with_reducible refine gN ?_);(with_reducible first|refine NN.cast ?_|refine NN.a6 ?_|refine NN.keep ?_))|((with_reducible refine gH ?_);((with_reducible refine NH.mk ?s ?_);case s=>(and_intros<;>omega)))|(with_reducible refine NLd.of (by with_reducible assumption) ?_))<;>(conv=>whnf))|((with_reducible refine gNRH ?_);((with_reducible refine st_ordRout ?_)))|((with_reducible refine gNOH ?_);(first|(refine st_ordH1 rfl (by kernel_rfl) rfl ?_; intro K hK; (conv=>whnf))|(refine st_ordH1g rfl (by kernel_rfl) rfl ?_; intro K hK; (conv=>whnf))|(refine st_ordH0 rfl (by kernel_rfl) ?_)|(refine st_ordHA rfl rfl (by kernel_rfl) (by intro h; cases h) ?_)))|((with_reducible refine gNEH ?_);(first|(refine st_eachHg rfl ?_ ?_; (intro K hK; (conv=>whnf)))|exact st_eachH0))|((with_reducible refine gX ?_);(first|(refine st_orderR rfl (by kernel_rfl) _ rfl ?_)|(with_reducible first|refine z3 ?_|refine z4 ?_|refine z5 ?_|refine z6 ?_)|((with_reducible refine z29 ?_);intro A B hA hB;(conv=>whnf))))|(with_reducible first|refine z1 ?_|refine z2 ?_|refine z9 ?_)))
          all_goals first | (exfalso; omega) | skip
          all_goals
            refine st_round (k + 1) hkt2 (by omega) ?_ (MemFits.eq rfl)
            repeat (first|exact FitsSl.nil|refine FitsSl.any ?_|refine FitsSl.cons (Fit1.int (by first | rfl | omega)) ?_|refine FitsSl.cons (Fit1.bool rfl) ?_|refine FitsSl.cons (Fit1.same (by intro h; cases h) (by with_reducible rfl)) ?_)
      · obtain rfl : k = i := by omega
        (repeat' (first|(with_reducible first|(refine hK _ _ ?_;clear hK K)|(refine hB ?_;clear hA hB A B))|((with_reducible refine gO ?_);(first|((with_reducible refine z25 ?_);intro K hK;(conv=>whnf))|(with_reducible refine z0 ?_)))|((first|((with_reducible refine gV ?_);(((with_reducible refine NV.i64 ?s ?_);case s=>omega)))|((with_reducible refine gI ?_);(((with_reducible refine NIf.decN ?s ?_);case s=>omega))))<;>(conv=>whnf))|((with_reducible refine gX ?_);(first|(with_reducible first|refine z3 ?_|refine z4 ?_|refine z7 ?_)|((with_reducible refine z29 ?_);intro A B hA hB;(conv=>whnf))))|(with_reducible first|refine z1 ?_|refine z2 ?_|refine z9 ?_|refine z10 ?_|refine z11 ?_|refine z19 ?_)))
        all_goals
          refine st_round (H, k + 1) ⟨hle3.trans hle4, hlt⟩ (by show C.length - (k + 1) < C.length - k; omega) ?_ (MemFits.eq rfl)
          repeat (first|exact FitsSl.nil|refine FitsSl.any ?_|refine FitsSl.cons (Fit1.int (by first | rfl | omega)) ?_|refine FitsSl.cons (Fit1.bool rfl) ?_|refine FitsSl.cons (Fit1.same (by intro h; cases h) (by with_reducible rfl)) ?_)
  · have hib : i = C.length := by omega
    subst hib
    have cw := cw G
    (repeat' (first|(with_reducible first|(refine hK _ _ ?_;clear hK K)|(refine hB ?_;clear hA hB A B)|(refine hK _ ?_;clear hK K))|((with_reducible refine gO ?_);(first|((with_reducible refine z25 ?_);intro K hK;(conv=>whnf))|(with_reducible refine z0 ?_)))|((first|((with_reducible refine gI ?_);(((with_reducible refine NIf.decN ?s ?_);case s=>omega)))|((with_reducible refine gH ?_);((with_reducible refine NH.mk ?s ?_);case s=>(and_intros<;>omega)))|((with_reducible refine gC ?_);((with_reducible refine NCall.isF 7 ?_);refine NCall.subE [0] (cw) rfl (by decide) rfl rfl ?_)))<;>(conv=>whnf))|((with_reducible refine gX ?_);(first|(with_reducible first|refine z3 ?_|refine z4 ?_|refine z7 ?_|refine z8 ?_)|((with_reducible refine z29 ?_);intro A B hA hB;(conv=>whnf))))|(with_reducible first|refine z1 ?_|refine z2 ?_|refine z10 ?_|refine z11 ?_|refine z19 ?_)|((with_reducible refine gR ?_);((refine z31 rfl ?_);intro K hK;(conv=>whnf)))))
    all_goals rfl
end Go.Proofs.YtaolcaggdddkpaaGreat
