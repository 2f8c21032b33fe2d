import Derived.Test.YtngodakgbldlpaaGreatDoorJ33
import Derived.Test.YtngodakgbldlpaaGreatDoorJ34
import Derived.Test.YtngodakgbldlpaaGreatDoorJ35
import Derived.Test.YtngodakgbldlpaaGreatDoorJ6
namespace Go.Proofs.YtngodakgbldlpaaGreatDoor
open Go.Sx
set_option maxRecDepth 20000
set_option linter.unusedSimpArgs false
set_option linter.unusedVariables false
set_option maxHeartbeats 4000000
set_option linter.unusedVariables false
section
variable (F : Heap)
theorem fits27_z (k : Int) (hk : ¬ (k = 1 ∨ k = 2 ∨ k = 3 ∨ k = 4 ∨ k = 5)) (pk pf pv : Int) (pl : List Pd.T) (f v : Int) (l : List Po.T) (pu u : Value) (tp : Int) (nb rb : Bool) (htp : Pd.top f = tp) (hnb : Pd.same (.mk pk pf pv pl) Po.noneP = nb) (hrb : Pd.right (.mk pk pf pv pl) = rb) (hu : Po.Row F u l) (hok : SlOk u l.length) (hpok : SlOk pu pl.length) (hln : l.length ≤ 4611686018427387904)
    (ih : ∀ x ∈ l, ∀ pA A, Po.At F x pA A → NCall Tryz.prog 30 [.agg (Po.cs x pA A)] [hpB F] fun r m => r = .bool (Po.fits x) ∧ m = [hpB F])
    (ct : NCall Tryz.prog 51 [.int .i64 f] [] fun r _ => r = .int .i64 tp)
    (cr : NCall Tryz.prog 7 [.agg [.int .i64 pk, .int .i64 pf, .int .i64 pv, .hs pu pl.length]] [hpB F] fun r m => r = .bool rb ∧ m = [hpB F])
    (cn : NCall Tryz.prog 44 [.agg [.int .i64 pk, .int .i64 pf, .int .i64 pv, .hs pu pl.length], .agg [.int .i64 0, .int .i64 0, .int .i64 0, .hs (.slice none 0 0) 0]] [hpB F] fun r m => r = .bool nb ∧ m = [hpB F]) :
    NCall Tryz.prog 30 [.agg [.int .i64 k, .int .i64 pk, .int .i64 pf, .int .i64 pv, .hs pu pl.length, .int .i64 f, .int .i64 v, .hs u l.length]] [hpB F] fun r m => r = .bool (Po.shape k (.mk pk pf pv pl) f v l.length && Po.fitsL l) ∧ MemFits m [hpB F] := by
  have hfl := Po.fitsL_iff l
  have hsh : Po.shape k (.mk pk pf pv pl) f v l.length = decide ((k : Int) = 1 ∧ rb = true ∧ (f = 0 ∧ v = 0) ∧ l.length = 0 ∨ (k : Int) = 2 ∧ nb = true ∧ (0 ≤ f ∧ f ≤ 4) ∧ (0 ≤ v ∧ v ≤ tp) ∧ l.length = 0 ∨ ((k : Int) = 3 ∨ (k : Int) = 4) ∧ nb = true ∧ (f = 0 ∧ v = 0) ∧ 2 ≤ l.length ∧ l.length ≤ 8 ∨ (k : Int) = 5 ∧ rb = true ∧ (f = 0 ∧ v = 0) ∧ l.length = 2) := by rw [← htp, ← hnb, ← hrb]; rfl
  clear htp hnb hrb
  refine ncall_of Tryz.func30 rfl (by decide) ?_
  rw [show Po.shape k (.mk pk pf pv pl) f v l.length = false by rw [hsh]; exact decide_eq_false (by omega)]
  clear hsh hfl ih
  rw [Bool.false_and]
  by_cases hk0 : k < 1
  · (repeat' (first|(with_reducible first|(refine hK _ _ ?_;clear hK K)|(refine hA ?_;clear hA hB A B)|(refine hK _ ?_;clear hK K))|((with_reducible refine gO ?_);(first|((with_reducible first|refine z25 ?_|refine z26 ?_);intro K hK;(conv=>whnf))|(with_reducible refine z0 ?_)))|((first|((with_reducible refine gI ?_);(first|((with_reducible refine NIf.decY ?s ?_);case s=>assumption)|((with_reducible refine NIf.yes ?s ?_);case s=>rfl)))|(with_reducible refine gN ?_;refine NN.a5 ?_)|((with_reducible refine gH ?_;refine NH.mk ?s ?_);case s=>(and_intros<;>first|with_reducible rfl|omega)))<;>(conv=>whnf))|((with_reducible refine gX ?_);(first|(with_reducible first|refine z3 ?_|refine z4 ?_|refine z8 ?_)|((with_reducible refine z29 ?_);intro A B hA hB;(conv=>whnf))))|(with_reducible first|refine z1 ?_|refine z2 ?_|refine z12 ?_)|((with_reducible refine gR ?_);((refine z31 rfl ?_);intro K hK;(conv=>whnf)))|((with_reducible refine gF ?_);((refine z33 rfl ?_);intro K hK;(conv=>whnf)))|((intro _;skip)<;>(conv=>whnf))))
    all_goals first
      | exact ⟨rfl, MemFits.pre 1 rfl⟩
      | (exfalso; omega)
  · (repeat' (first|(with_reducible first|(refine hK _ _ ?_;clear hK K)|(refine hA ?_;clear hA hB A B)|(refine hK _ ?_;clear hK K))|((with_reducible refine gO ?_);(first|((with_reducible first|refine z25 ?_|refine z26 ?_);intro K hK;(conv=>whnf))|(with_reducible refine z0 ?_)))|((first|((with_reducible refine gI ?_);(first|((with_reducible refine NIf.decY ?s ?_);case s=>omega)|((with_reducible refine NIf.decN ?s ?_);case s=>assumption)|((with_reducible refine NIf.yes ?s ?_);case s=>rfl)))|(with_reducible refine gN ?_;refine NN.a5 ?_)|((with_reducible refine gH ?_;refine NH.mk ?s ?_);case s=>(and_intros<;>first|with_reducible rfl|omega)))<;>(conv=>whnf))|((with_reducible refine gX ?_);(first|(with_reducible first|refine z3 ?_|refine z4 ?_|refine z8 ?_)|((with_reducible refine z29 ?_);intro A B hA hB;(conv=>whnf))))|(with_reducible first|refine z1 ?_|refine z2 ?_|refine z12 ?_)|((with_reducible refine gR ?_);((refine z31 rfl ?_);intro K hK;(conv=>whnf)))|((with_reducible refine gF ?_);((refine z33 rfl ?_);intro K hK;(conv=>whnf)))|((intro _;skip)<;>(conv=>whnf))))
    all_goals first
      | exact ⟨rfl, MemFits.pre 1 rfl⟩
      | (exfalso; omega)
theorem fits27_c : ∀ (n : Nat) (x : Po.T) (pu u : Value), Po.tot x ≤ n → Po.tot x ≤ 4611686018427387904 → Po.At F x pu u →
    NCall Tryz.prog 30 [.agg (Po.cs x pu u)] [hpB F] fun r m => r = .bool (Po.fits x) ∧ m = [hpB F]
  | 0, x, pu, u, hn, _, _ => absurd (Po.tot_pos x) (by omega)
  | n + 1, ⟨k, ⟨pk, pf, pv, pl⟩, f, v, l⟩, pu, u, hn, hs, hx => by
    refine NCall.fits (K := fun r m => r = .bool (Po.fits (.mk k (.mk pk pf pv pl) f v l)) ∧ MemFits m [hpB F]) ?_ fun r m' h => ⟨r, _, rfl, h.2, h.1, rfl⟩
    have hll := Po.length_le l
    have e2 := Po.tot_mk k (.mk pk pf pv pl) f v l
    have ih : ∀ x ∈ l, ∀ pA A, Po.At F x pA A → NCall Tryz.prog 30 [.agg (Po.cs x pA A)] [hpB F] fun r m => r = .bool (Po.fits x) ∧ m = [hpB F] := fun x hx pA A hA => fits27_c n x pA A (by have := Po.tot_lt (k := k) (q := .mk pk pf pv pl) (f := f) (v := v) hx; omega) (by have := Po.tot_lt (k := k) (q := .mk pk pf pv pl) (f := f) (v := v) hx; omega) hA
    have ct := reftop26_c f
    have cr := refright26_c F (.mk pk pf pv pl) pu (by omega) hx.p
    have cn := refsame26_c F _ (.mk pk pf pv pl) Po.noneP pu (.slice none 0 0) (Nat.le_refl _) (by omega) (by decide +kernel) hx.p RowF.nil
    rw [Po.fits, po_cs]
    by_cases hk : k = 1 ∨ k = 2 ∨ k = 3 ∨ k = 4 ∨ k = 5
    · rcases hk with rfl | rfl | rfl | rfl | rfl
      · exact fits27_1 F pk pf pv pl f v l pu u _ _ _ rfl rfl rfl hx.l hx.l.ok hx.p.ok (by omega) ih ct cr cn
      · exact fits27_2 F pk pf pv pl f v l pu u _ _ _ rfl rfl rfl hx.l hx.l.ok hx.p.ok (by omega) ih ct cr cn
      · exact fits27_3 F pk pf pv pl f v l pu u _ _ _ rfl rfl rfl hx.l hx.l.ok hx.p.ok (by omega) ih ct cr cn
      · exact fits27_4 F pk pf pv pl f v l pu u _ _ _ rfl rfl rfl hx.l hx.l.ok hx.p.ok (by omega) ih ct cr cn
      · exact fits27_5 F pk pf pv pl f v l pu u _ _ _ rfl rfl rfl hx.l hx.l.ok hx.p.ok (by omega) ih ct cr cn
    · exact fits27_z F k hk pk pf pv pl f v l pu u _ _ _ rfl rfl rfl hx.l hx.l.ok hx.p.ok (by omega) ih ct cr cn
theorem refright27_c (x : Po.T) (pu u : Value) (hs : Po.tot x ≤ 4611686018427387904) (hx : Po.At F x pu u) : NCall Tryz.prog 6 [.agg (Po.cs x pu u)] [hpB F] fun r m => r = .bool (Po.right x) ∧ m = [hpB F] := by
  refine NCall.fits (K := fun r m => r = .bool (Po.right x) ∧ MemFits m [hpB F]) ?_ fun r m' h => ⟨r, _, rfl, h.2, h.1, rfl⟩
  have c1 := refsize27_c F _ x pu u (Nat.le_refl _) hs hx
  have c2 := refdeep27_c F _ x pu u (Nat.le_refl _) hs hx
  have c3 := refwide27_c F _ x pu u (Nat.le_refl _) hs hx
  have c4 := fits27_c F _ x pu u (Nat.le_refl _) hs hx
  have hd := Po.deep_tot x
  have hz := Po.size_tot x
  have hwd := Po.wide_le x
  have hok := hx.l.ok
  have hpok := hx.p.ok
  unfold Po.right
  generalize Po.fits x = fb at *
  generalize Po.size x = sz at *
  generalize Po.deep x = dp at *
  generalize Po.wide x = wd at *
  simp only [Po.cs] at *
  clear hx
  refine ncall_of Tryz.func6 rfl (by decide) ?_
  cases fb
  · (repeat' (first|(with_reducible first|(refine hK _ _ ?_;clear hK K)|(refine hK _ ?_;clear hK K))|((with_reducible refine gO ?_);(first|((with_reducible first|refine z25 ?_|refine z26 ?_);intro K hK;(conv=>whnf))|(with_reducible refine z0 ?_)))|((first|((with_reducible refine gI ?_);(((with_reducible refine NIf.no ?s ?_);case s=>rfl)))|((with_reducible refine gH ?_;refine NH.mk ?s ?_);case s=>(and_intros<;>with_reducible rfl))|((with_reducible refine gC ?_;refine NCall.isF 30 ?_);refine NCall.subE [0] (c4) rfl (by decide) rfl rfl ?_))<;>(conv=>whnf))|(with_reducible refine gX ?_;first|refine z3 ?_|refine z4 ?_|refine z8 ?_)|(with_reducible first|refine z1 ?_|refine z2 ?_)|((with_reducible refine gR ?_);((refine z31 rfl ?_);intro K hK;(conv=>whnf)))|((with_reducible refine gF ?_);((refine z33 rfl ?_);intro K hK;(conv=>whnf)))|((intro _;skip)<;>(conv=>whnf))))
    all_goals first
      | (exfalso; omega)
      | exact ⟨by simp, MemFits.pre 1 rfl⟩
  by_cases h1 : dp ≤ 8
  · by_cases h2 : sz ≤ 64
    · by_cases h3 : wd ≤ 64
      · (repeat' (first|(with_reducible first|(refine hK _ _ ?_;clear hK K)|(refine hK _ ?_;clear hK K))|((with_reducible refine gO ?_);(first|((with_reducible first|refine z25 ?_|refine z26 ?_);intro K hK;(conv=>whnf))|(with_reducible refine z0 ?_)))|((first|((with_reducible refine gI ?_);(first|((with_reducible refine NIf.decY ?s ?_);case s=>omega)|((with_reducible refine NIf.yes ?s ?_);case s=>rfl)))|((with_reducible refine gH ?_;refine NH.mk ?s ?_);case s=>(and_intros<;>with_reducible rfl))|((with_reducible refine gC ?_);(first|((with_reducible refine NCall.isF 30 ?_);refine NCall.subE [0] (c4) rfl (by decide) rfl rfl ?_)|((with_reducible refine NCall.isF 17 ?_);refine NCall.subE [0] (c1) rfl (by decide) rfl rfl ?_)|((with_reducible refine NCall.isF 19 ?_);refine NCall.subE [0] (c2) rfl (by decide) rfl rfl ?_)|((with_reducible refine NCall.isF 21 ?_);refine NCall.subE [0] (c3) rfl (by decide) rfl rfl ?_))))<;>(conv=>whnf))|(with_reducible refine gX ?_;first|refine z3 ?_|refine z4 ?_|refine z8 ?_)|(with_reducible first|refine z1 ?_|refine z2 ?_)|((with_reducible refine gR ?_);((refine z31 rfl ?_);intro K hK;(conv=>whnf)))|((with_reducible refine gF ?_);((refine z33 rfl ?_);intro K hK;(conv=>whnf)))|((intro _;skip)<;>(conv=>whnf))))
        all_goals first
          | (exfalso; omega)
          | (refine ⟨?_, MemFits.pre 1 rfl⟩; congr 1; simp [h1, h2, h3] <;> omega)
      · (repeat' (first|(with_reducible first|(refine hK _ _ ?_;clear hK K)|(refine hK _ ?_;clear hK K))|((with_reducible refine gO ?_);(first|((with_reducible first|refine z25 ?_|refine z26 ?_);intro K hK;(conv=>whnf))|(with_reducible refine z0 ?_)))|((first|((with_reducible refine gI ?_);(first|((with_reducible refine NIf.decY ?s ?_);case s=>omega)|((with_reducible refine NIf.yes ?s ?_);case s=>rfl)))|((with_reducible refine gH ?_;refine NH.mk ?s ?_);case s=>(and_intros<;>with_reducible rfl))|((with_reducible refine gC ?_);(first|((with_reducible refine NCall.isF 30 ?_);refine NCall.subE [0] (c4) rfl (by decide) rfl rfl ?_)|((with_reducible refine NCall.isF 17 ?_);refine NCall.subE [0] (c1) rfl (by decide) rfl rfl ?_)|((with_reducible refine NCall.isF 19 ?_);refine NCall.subE [0] (c2) rfl (by decide) rfl rfl ?_)|((with_reducible refine NCall.isF 21 ?_);refine NCall.subE [0] (c3) rfl (by decide) rfl rfl ?_))))<;>(conv=>whnf))|(with_reducible refine gX ?_;first|refine z3 ?_|refine z4 ?_|refine z8 ?_)|(with_reducible first|refine z1 ?_|refine z2 ?_)|((with_reducible refine gR ?_);((refine z31 rfl ?_);intro K hK;(conv=>whnf)))|((with_reducible refine gF ?_);((refine z33 rfl ?_);intro K hK;(conv=>whnf)))|((intro _;skip)<;>(conv=>whnf))))
        all_goals first
          | (exfalso; omega)
          | (refine ⟨?_, MemFits.pre 1 rfl⟩; congr 1; simp [h3] <;> omega)
    · (repeat' (first|(with_reducible first|(refine hK _ _ ?_;clear hK K)|(refine hK _ ?_;clear hK K))|((with_reducible refine gO ?_);(first|((with_reducible first|refine z25 ?_|refine z26 ?_);intro K hK;(conv=>whnf))|(with_reducible refine z0 ?_)))|((first|((with_reducible refine gI ?_);(first|((with_reducible refine NIf.decY ?s ?_);case s=>omega)|((with_reducible refine NIf.decN ?s ?_);case s=>omega)|((with_reducible refine NIf.yes ?s ?_);case s=>rfl)))|((with_reducible refine gH ?_;refine NH.mk ?s ?_);case s=>(and_intros<;>with_reducible rfl))|((with_reducible refine gC ?_);(first|((with_reducible refine NCall.isF 30 ?_);refine NCall.subE [0] (c4) rfl (by decide) rfl rfl ?_)|((with_reducible refine NCall.isF 19 ?_);refine NCall.subE [0] (c2) rfl (by decide) rfl rfl ?_)|((with_reducible refine NCall.isF 17 ?_);refine NCall.subE [0] (c1) rfl (by decide) rfl rfl ?_))))<;>(conv=>whnf))|(with_reducible refine gX ?_;first|refine z3 ?_|refine z4 ?_|refine z8 ?_)|(with_reducible first|refine z1 ?_|refine z2 ?_)|((with_reducible refine gR ?_);((refine z31 rfl ?_);intro K hK;(conv=>whnf)))|((with_reducible refine gF ?_);((refine z33 rfl ?_);intro K hK;(conv=>whnf)))|((intro _;skip)<;>(conv=>whnf))))
      all_goals first
        | (exfalso; omega)
        | (refine ⟨?_, MemFits.pre 1 rfl⟩; congr 1; simp [h2] <;> omega)
  · (repeat' (first|(with_reducible first|(refine hK _ _ ?_;clear hK K)|(refine hK _ ?_;clear hK K))|((with_reducible refine gO ?_);(first|((with_reducible first|refine z25 ?_|refine z26 ?_);intro K hK;(conv=>whnf))|(with_reducible refine z0 ?_)))|((first|((with_reducible refine gI ?_);(first|((with_reducible refine NIf.decN ?s ?_);case s=>omega)|((with_reducible refine NIf.yes ?s ?_);case s=>rfl)|((with_reducible refine NIf.no ?s ?_);case s=>rfl)))|((with_reducible refine gH ?_;refine NH.mk ?s ?_);case s=>(and_intros<;>with_reducible rfl))|((with_reducible refine gC ?_);(first|((with_reducible refine NCall.isF 30 ?_);refine NCall.subE [0] (c4) rfl (by decide) rfl rfl ?_)|((with_reducible refine NCall.isF 19 ?_);refine NCall.subE [0] (c2) rfl (by decide) rfl rfl ?_))))<;>(conv=>whnf))|(with_reducible refine gX ?_;first|refine z3 ?_|refine z4 ?_|refine z8 ?_)|(with_reducible first|refine z1 ?_|refine z2 ?_)|((with_reducible refine gR ?_);((refine z31 rfl ?_);intro K hK;(conv=>whnf)))|((with_reducible refine gF ?_);((refine z33 rfl ?_);intro K hK;(conv=>whnf)))|((intro _;skip)<;>(conv=>whnf))))
    all_goals first
      | (exfalso; omega)
      | (refine ⟨?_, MemFits.pre 1 rfl⟩; congr 1; simp [h1] <;> omega)
end
end Go.Proofs.YtngodakgbldlpaaGreatDoor
namespace Go.Proofs.YtngodakgbldlpaaGreatDoor
open Go.Sx
set_option maxRecDepth 20000
set_option linter.unusedSimpArgs false
set_option linter.unusedVariables false
set_option maxHeartbeats 4000000
set_option linter.unusedVariables false
section
variable (F : Heap)
theorem refsame27_c : ∀ (n : Nat) (x y : Po.T) (pu u pw w : Value), Po.tot x ≤ n → Po.tot x ≤ 4611686018427387904 → Po.tot y ≤ 4611686018427387904 → Po.At F x pu u → Po.At F y pw w →
    NCall Tryz.prog 23 [.agg (Po.cs x pu u), .agg (Po.cs y pw w)] [hpB F] fun r m => r = .bool (Po.same x y) ∧ m = [hpB F]
  | 0, x, y, pu, u, pw, w, hn, _, _, _, _ => absurd (Po.tot_pos x) (by omega)
  | n + 1, ⟨k, p, f, v, a⟩, ⟨k', p', f', v', b⟩, pu, u, pw, w, hn, hs, hs', hx0, hy0 => by
    refine NCall.fits (K := fun r m => r = .bool (Po.same (.mk k p f v a) (.mk k' p' f' v' b)) ∧ MemFits m [hpB F]) ?_ fun r m' h => ⟨r, _, rfl, h.2, h.1, rfl⟩
    have hv : Po.Row F u a := hx0.l
    have hw : Po.Row F w b := hy0.l
    have hp : Pd.Row F pu p.l := hx0.p
    have hp' : Pd.Row F pw p'.l := hy0.p
    have e : Po.same (.mk k p f v a) (.mk k' p' f' v' b) = (decide (k = k') && decide (f = f') && decide (v = v') && Pd.same p p' && Po.sameL a b) := by rw [Po.same]
    have e2 := Po.tot_mk k p f v a
    have e3 := Po.tot_mk k' p' f' v' b
    have hll := Po.length_le a
    have hll' := Po.length_le b
    have hg : ∀ x ∈ a, ∀ y ∈ b, ∀ pA A pB B, Po.At F x pA A → Po.At F y pB B → _ := fun x hx y hy pA A pB B hA hB => refsame27_c n x y pA A pB B (by have := Po.tot_lt (k := k) (q := p) (f := f) (v := v) hx; omega) (by have := Po.tot_lt (k := k) (q := p) (f := f) (v := v) hx; omega) (by have := Po.tot_lt (k := k') (q := p') (f := f') (v := v') hy; omega) hA hB
    have hok := hv.ok
    have hok2 := hw.ok
    have hpok := hp.ok
    have hpok2 := hp'.ok
    have cp := refsame26_c F _ p p' pu pw (Nat.le_refl _) (by omega) (by omega) hp hp'
    have hs2 := Po.sameL_iff a b
    have hpp : Pd.same p p' = true → True := fun _ => trivial
    rw [e]
    have hla : a.length ≤ 4611686018427387904 := by omega
    have hlb : b.length ≤ 4611686018427387904 := by omega
    clear e e2 e3 hs hs' hn hx0 hy0 hll hll'
    refine ncall_of Tryz.func23 rfl (by decide) ?_
    rw [po_cs, po_cs]
    generalize Pd.same p p' = bp at *
    obtain ⟨pk, pf, pv, pl⟩ := p
    obtain ⟨pk', pf', pv', pl'⟩ := p'
    simp only [pd_cs, Pd.T.k, Pd.T.f, Pd.T.v, Pd.T.l] at *
    by_cases h1 : ((k = k' ∧ f = f' ∧ v = v') ∧ bp = true) ∧ a.length = b.length
    · obtain ⟨⟨⟨rfl, rfl, rfl⟩, rfl⟩, hl⟩ := h1
      simp only [decide_true, Bool.true_and]
      (repeat' (first|(with_reducible first|(refine hK _ _ ?_;clear hK K)|(refine hB ?_;clear hA hB A B)|(refine hK _ ?_;clear hK K))|((with_reducible refine gO ?_);(first|((with_reducible first|refine z25 ?_|refine z26 ?_);intro K hK;(conv=>whnf))|(with_reducible refine z0 ?_)))|((first|((with_reducible refine gI ?_);(first|(((with_reducible refine NIf.no ?s ?_);case s=>(simp ;done)))|with_reducible refine NIf.not_ ?_|((with_reducible refine NIf.decY ?s ?_);case s=>omega)))|(with_reducible refine gN ?_;refine NN.a5 ?_)|((with_reducible refine gH ?_;refine NH.mk ?s ?_);case s=>(and_intros<;>first|with_reducible rfl|omega))|((with_reducible refine gC ?_;refine NCall.isF 44 ?_);refine NCall.subE [0] (cp) rfl (by decide) rfl rfl ?_))<;>(conv=>whnf))|((with_reducible refine gX ?_);(first|(with_reducible first|refine z3 ?_|refine z4 ?_|refine z5 ?_|refine z6 ?_)|((with_reducible refine z29 ?_);intro A B hA hB;(conv=>whnf))))|(with_reducible first|refine z1 ?_|refine z2 ?_)|((with_reducible refine gF ?_);((refine z33 rfl ?_);intro K hK;(conv=>whnf)))|((intro _;skip)<;>(conv=>whnf))))
      all_goals first | (exfalso; omega) | skip
      refine st_auto (α := Nat) (fun k => k ≤ a.length ∧ ∀ (j : Nat) (x y : Po.T), j < k → a[j]? = some x → b[j]? = some y → Po.same x y = true) (fun k => [.keep, .keep, .keep, .keep, .drop, .set (.int .i64 k), .keep, .keep, .keep, .keep, .keep, .keep, .keep, .keep, .keep, .keep, .keep, .keep, .keep, .keep, .keep, .keep, .keep, .keep, .keep, .keep, .keep, .keep, .keep, .keep, .keep, .keep, .keep, .keep, .keep, .keep, .keep, .keep, .keep, .keep, .keep, .keep, .drop, .drop, .drop, .drop, .drop, .drop, .drop, .drop, .drop, .drop, .drop, .drop, .drop, .drop, .drop, .drop, .drop, .drop, .drop]) (fun _ => []) (fun k => a.length - k) 0 ⟨Nat.zero_le _, fun j x y hj => absurd hj (Nat.not_lt_zero _)⟩ ?_ (MemFits.eq rfl) ?_
      · repeat (first|exact FitsSl.nil|refine FitsSl.any ?_|refine FitsSl.cons (Fit1.int (by first | rfl | omega)) ?_|refine FitsSl.cons (Fit1.bool rfl) ?_|refine FitsSl.cons (Fit1.same (by intro h; cases h) (by with_reducible rfl)) ?_)
      (intro i ⟨hk, hgone⟩; intro K hK; (conv=>whnf); refine hK _ _ ?_; clear hK K)
      by_cases hlt : i < a.length
      · have hx : a[i]? = some a[i] := List.getElem?_eq_getElem hlt
        have hy : b[i]? = some (b[i]'(by omega)) := List.getElem?_eq_getElem (by omega)
        obtain ⟨pA, pcap, A, cap, hA, c0, c1, c2, c3, c4, c5, c6, c7⟩ := hv.get hx
        obtain ⟨pB, pcap', B, cap', hB, d0, d1, d2, d3, d4, d5, d6, d7⟩ := hw.get hy
        have c := hg _ (List.mem_of_getElem? hx) _ (List.mem_of_getElem? hy) _ _ _ _ hA hB
        clear hg cp
        generalize a[i] = x at *
        generalize (b[i]'(by omega)) = y at *
        generalize hq : Po.same x y = q at *
        obtain ⟨xk, ⟨xpk, xpf, xpv, xpl⟩, xf, xv, xl⟩ := x
        obtain ⟨yk, ⟨ypk, ypf, ypv, ypl⟩, yf, yv, yl⟩ := y
        simp only [Po.cs, Po.T.k, Po.T.p, Po.T.f, Po.T.v, Po.T.l, Pd.T.k, Pd.T.f, Pd.T.v, Pd.T.l] at c c0 c1 c2 c3 c4 c5 c6 c7 d0 d1 d2 d3 d4 d5 d6 d7
        cases q with
        | true =>
          (repeat' (first|(with_reducible first|(refine hK _ _ ?_;clear hK K)|(refine hA ?_;clear hA hB A B)|(refine hB ?_;clear hA hB A B)|(refine hK _ ?_;clear hK K))|((with_reducible refine gO ?_);(first|((with_reducible refine z25 ?_);intro K hK;(conv=>whnf))|(with_reducible refine z0 ?_)))|((first|((with_reducible refine gV ?_);(((with_reducible refine NV.i64 ?s ?_);case s=>omega)))|((with_reducible refine gI ?_);(first|with_reducible refine NIf.not_ ?_|((with_reducible refine NIf.decY ?s ?_);case s=>omega)|((with_reducible refine NIf.yes ?s ?_);case s=>rfl)))|(with_reducible refine gN ?_;first|refine NN.cast ?_|refine NN.a5 ?_|refine NN.keep ?_)|((with_reducible refine gH ?_;refine NH.mk ?s ?_);case s=>(and_intros<;>first|with_reducible rfl|((with_reducible refine gKept ?_);exact rfl)|omega|rfl))|((with_reducible refine gC ?_;refine NCall.isF 23 ?_);refine NCall.subE [0] (c) rfl (by decide) rfl rfl ?_)|(with_reducible refine NLd.of (by with_reducible assumption) ?_))<;>(conv=>whnf))|(with_reducible refine gNRK ?_;refine st_ordSout ?_)|((with_reducible refine gNOK ?_);(first|(refine st_ordK1 rfl (by kernel_rfl) rfl ?_; intro K hK; (conv=>whnf))|(refine st_ordK0 rfl (by kernel_rfl) ?_)|(refine st_ordKA rfl rfl (by kernel_rfl) (by intro h; cases h) ?_)))|((with_reducible refine gNEK ?_);(first|(refine st_eachK ?_ ?_; (intro K hK; (conv=>whnf)))|exact st_eachK0))|((with_reducible refine gX ?_);(first|(refine st_orderS [] rfl rfl (by kernel_rfl) _ rfl ?_)|(with_reducible first|refine z3 ?_|refine z4 ?_|refine z5 ?_|refine z6 ?_)|((with_reducible refine z29 ?_);intro A B hA hB;(conv=>whnf))))|(with_reducible first|refine z1 ?_|refine z2 ?_|refine z9 ?_)))
          all_goals
            refine st_round (i + 1) ⟨hlt, fun j x' y' hj h1 h2 => ?_⟩ (by omega) ?_ (MemFits.eq rfl)
            · by_cases e : j = i
              · subst e
                rw [hx] at h1
                rw [hy] at h2
                injection h1 with h1
                injection h2 with h2
                rw [← h1, ← h2]; exact hq
              · exact hgone j x' y' (by omega) h1 h2
            repeat (first|exact FitsSl.nil|refine FitsSl.any ?_|refine FitsSl.cons (Fit1.int (by first | rfl | omega)) ?_|refine FitsSl.cons (Fit1.bool rfl) ?_|refine FitsSl.cons (Fit1.same (by intro h; cases h) (by with_reducible rfl)) ?_)
        | false =>
          have hne : Po.sameL a b = false := by
            cases h : Po.sameL a b with
            | false => rfl
            | true => have := (hs2.1 h).2 i _ _ hx hy; rw [hq] at this; cases this
          rw [hne]
          (repeat' (first|(with_reducible first|(refine hK _ _ ?_;clear hK K)|(refine hA ?_;clear hA hB A B)|(refine hK _ ?_;clear hK K))|((with_reducible refine gO ?_);(first|((with_reducible refine z25 ?_);intro K hK;(conv=>whnf))|(with_reducible refine z0 ?_)))|((first|((with_reducible refine gI ?_);(first|with_reducible refine NIf.not_ ?_|((with_reducible refine NIf.decY ?s ?_);case s=>omega)|((with_reducible refine NIf.no ?s ?_);case s=>rfl)))|(with_reducible refine gN ?_;first|refine NN.cast ?_|refine NN.a5 ?_|refine NN.keep ?_)|((with_reducible refine gH ?_;refine NH.mk ?s ?_);case s=>(and_intros<;>first|with_reducible rfl|((with_reducible refine gKept ?_);exact rfl)|omega|rfl))|((with_reducible refine gC ?_;refine NCall.isF 23 ?_);refine NCall.subE [0] (c) rfl (by decide) rfl rfl ?_)|(with_reducible refine NLd.of (by with_reducible assumption) ?_))<;>(conv=>whnf))|(with_reducible refine gNRK ?_;refine st_ordSout ?_)|((with_reducible refine gNOK ?_);(first|(refine st_ordK1 rfl (by kernel_rfl) rfl ?_; intro K hK; (conv=>whnf))|(refine st_ordK0 rfl (by kernel_rfl) ?_)|(refine st_ordKA rfl rfl (by kernel_rfl) (by intro h; cases h) ?_)))|((with_reducible refine gNEK ?_);(first|(refine st_eachK ?_ ?_; (intro K hK; (conv=>whnf)))|exact st_eachK0))|((with_reducible refine gX ?_);(first|(refine st_orderS [] rfl rfl (by kernel_rfl) _ rfl ?_)|(with_reducible first|refine z3 ?_|refine z4 ?_|refine z5 ?_|refine z6 ?_|refine z8 ?_)|((with_reducible refine z29 ?_);intro A B hA hB;(conv=>whnf))))|(with_reducible first|refine z1 ?_|refine z2 ?_|refine z12 ?_|refine z13 ?_|refine z20 ?_)|((with_reducible refine gR ?_);((refine z31 rfl ?_);intro K hK;(conv=>whnf)))))
          all_goals exact ⟨rfl, MemFits.pre 1 rfl⟩
      · have hy : Po.sameL a b = true := hs2.2 ⟨hl, fun j x y h1 h2 => hgone j x y (by have := (List.getElem?_eq_some_iff.1 h1).1; omega) h1 h2⟩
        rw [hy]
        (repeat' (first|(with_reducible first|(refine hK _ _ ?_;clear hK K)|(refine hB ?_;clear hA hB A B)|(refine hK _ ?_;clear hK K))|((with_reducible refine gO ?_);(first|((with_reducible refine z25 ?_);intro K hK;(conv=>whnf))|(with_reducible refine z0 ?_)))|((first|((with_reducible refine gI ?_);(((with_reducible refine NIf.decN ?s ?_);case s=>omega)))|(with_reducible refine gN ?_;refine NN.a5 ?_)|((with_reducible refine gH ?_;refine NH.mk ?s ?_);case s=>(and_intros<;>first|with_reducible rfl|omega)))<;>(conv=>whnf))|((with_reducible refine gX ?_);(first|(with_reducible first|refine z3 ?_|refine z4 ?_|refine z7 ?_|refine z8 ?_)|((with_reducible refine z29 ?_);intro A B hA hB;(conv=>whnf))))|(with_reducible first|refine z1 ?_|refine z2 ?_|refine z10 ?_|refine z11 ?_|refine z19 ?_)|((with_reducible refine gR ?_);((refine z31 rfl ?_);intro K hK;(conv=>whnf)))))
        all_goals exact ⟨rfl, MemFits.pre 1 rfl⟩
    · have hne : (decide (k = k') && decide (f = f') && decide (v = v') && bp && Po.sameL a b) = false := by
        cases h : (decide (k = k') && decide (f = f') && decide (v = v') && bp && Po.sameL a b) with
        | false => rfl
        | true =>
          simp only [Bool.and_eq_true, decide_eq_true_eq] at h
          exact (h1 ⟨⟨⟨h.1.1.1.1, h.1.1.1.2, h.1.1.2⟩, h.1.2⟩, (hs2.1 h.2).1⟩).elim
      rw [hne]
      clear hg hs2
      cases bp
      all_goals
        (repeat' (first|(with_reducible first|(refine hK _ _ ?_;clear hK K)|(refine hA ?_;clear hA hB A B)|(refine hB ?_;clear hA hB A B)|(refine hK _ ?_;clear hK K))|((with_reducible refine gO ?_);(first|((with_reducible first|refine z25 ?_|refine z26 ?_);intro K hK;(conv=>whnf))|(with_reducible refine z0 ?_)))|((first|((with_reducible refine gI ?_);(first|with_reducible refine NIf.not_ ?_|((with_reducible refine NIf.decY ?s ?_);case s=>assumption)|((with_reducible refine NIf.decN ?s ?_);case s=>assumption)|((with_reducible refine NIf.yes ?s ?_);case s=>rfl)|((with_reducible refine NIf.no ?s ?_);case s=>rfl)|(with_reducible refine NIf.dec (fun _=>?_) (fun _=>?_))))|(with_reducible refine gN ?_;refine NN.a5 ?_)|((with_reducible refine gH ?_;refine NH.mk ?s ?_);case s=>(and_intros<;>first|with_reducible rfl|omega))|((with_reducible refine gC ?_;refine NCall.isF 44 ?_);refine NCall.subE [0] (cp) rfl (by decide) rfl rfl ?_))<;>(conv=>whnf))|((with_reducible refine gX ?_);(first|(with_reducible first|refine z3 ?_|refine z4 ?_|refine z5 ?_|refine z6 ?_|refine z8 ?_)|((with_reducible refine z29 ?_);intro A B hA hB;(conv=>whnf))))|(with_reducible first|refine z1 ?_|refine z2 ?_|refine z12 ?_)|((with_reducible refine gR ?_);((refine z31 rfl ?_);intro K hK;(conv=>whnf)))|((with_reducible refine gF ?_);((refine z33 rfl ?_);intro K hK;(conv=>whnf)))|((intro _;skip)<;>(conv=>whnf))))
      all_goals first
        | exact ⟨rfl, MemFits.pre 1 rfl⟩
        | (exfalso; exact h1 ⟨⟨⟨by omega, by omega, by omega⟩, rfl⟩, by omega⟩)
end
end Go.Proofs.YtngodakgbldlpaaGreatDoor
