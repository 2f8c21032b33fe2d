/-
  Are policies the same? By the document, and by the program; CheckTells, walked.
-/
import Derived.Test.YtpkjnmddembkjaaGreatDoorJ17
import Derived.Test.YtpkjnmddembkjaaGreatDoorJ4
import Derived.Test.YtpkjnmddembkjaaGreatDoorJ15
import Derived.Test.YtpkjnmddembkjaaGreatDoorJ25
import Derived.Test.YtpkjnmddembkjaaGreatDoorJ27
namespace Go.Proofs.YtpkjnmddembkjaaGreatDoor
open Go.Sx
set_option maxRecDepth 20000
set_option linter.unusedSimpArgs false
set_option linter.unusedVariables false
set_option maxHeartbeats 4000000
set_option linter.unusedVariables false
section
variable (F : Heap)
theorem refsame27_c : ∀ (n : Nat) (x y : Po.T) (pu u pw w : Value), Po.tot x ≤ n → Po.tot x ≤ 4611686018427387904 → Po.tot y ≤ 4611686018427387904 → Po.At F x pu u → Po.At F y pw w →
    NCall Tryz.prog 16 [.agg (Po.cs x pu u), .agg (Po.cs y pw w)] [hpB F] fun r m => r = .bool (Po.same x y) ∧ m = [hpB F]
  | 0, x, y, pu, u, pw, w, hn, _, _, _, _ => absurd (Po.tot_pos x) (by omega)
  | n + 1, ⟨k, p, f, v, a⟩, ⟨k', p', f', v', b⟩, pu, u, pw, w, hn, hs, hs', hx0, hy0 => by
    refine NCall.fits (K := fun r m => r = .bool (Po.same (.mk k p f v a) (.mk k' p' f' v' b)) ∧ MemFits m [hpB F]) ?_ fun r m' h => ⟨r, _, rfl, h.2, h.1, rfl⟩
    have hv : Po.Row F u a := hx0.l
    have hw : Po.Row F w b := hy0.l
    have hp : Pd.Row F pu p.l := hx0.p
    have hp' : Pd.Row F pw p'.l := hy0.p
    have e : Po.same (.mk k p f v a) (.mk k' p' f' v' b) = (decide (k = k') && decide (f = f') && decide (v = v') && Pd.same p p' && Po.sameL a b) := by rw [Po.same]
    have e2 := Po.tot_mk k p f v a
    have e3 := Po.tot_mk k' p' f' v' b
    have hll := Po.length_le a
    have hll' := Po.length_le b
    have hg : ∀ x ∈ a, ∀ y ∈ b, ∀ pA A pB B, Po.At F x pA A → Po.At F y pB B → _ := fun x hx y hy pA A pB B hA hB => refsame27_c n x y pA A pB B (by have := Po.tot_lt (k := k) (q := p) (f := f) (v := v) hx; omega) (by have := Po.tot_lt (k := k) (q := p) (f := f) (v := v) hx; omega) (by have := Po.tot_lt (k := k') (q := p') (f := f') (v := v') hy; omega) hA hB
    have hok := hv.ok
    have hok2 := hw.ok
    have hpok := hp.ok
    have hpok2 := hp'.ok
    have cp := refsame26_c F _ p p' pu pw (Nat.le_refl _) (by omega) (by omega) hp hp'
    have hs2 := Po.sameL_iff a b
    have hpp : Pd.same p p' = true → True := fun _ => trivial
    rw [e]
    have hla : a.length ≤ 4611686018427387904 := by omega
    have hlb : b.length ≤ 4611686018427387904 := by omega
    clear e e2 e3 hs hs' hn hx0 hy0 hll hll'
    refine ncall_of Tryz.func16 rfl (by decide) ?_
    rw [po_cs, po_cs]
    generalize Pd.same p p' = bp at *
    obtain ⟨pk, pf, pv, pl⟩ := p
    obtain ⟨pk', pf', pv', pl'⟩ := p'
    simp only [pd_cs, Pd.T.k, Pd.T.f, Pd.T.v, Pd.T.l] at *
    by_cases h1 : ((k = k' ∧ f = f' ∧ v = v') ∧ bp = true) ∧ a.length = b.length
    · obtain ⟨⟨⟨rfl, rfl, rfl⟩, rfl⟩, hl⟩ := h1
      simp only [decide_true, Bool.true_and]
      (repeat' (first|(with_reducible first|(refine hK _ _ ?_;clear hK K)|(refine hB ?_;clear hA hB A B)|(refine hK _ ?_;clear hK K))|((with_reducible refine gO ?_);(first|((with_reducible first|refine z25 ?_|refine z26 ?_);intro K hK;(conv=>whnf))|(with_reducible refine z0 ?_)))|((first|((with_reducible refine gI ?_);(first|(((with_reducible refine NIf.no ?s ?_);case s=>(simp ;done)))|with_reducible refine NIf.not_ ?_|((with_reducible refine NIf.decY ?s ?_);case s=>omega)))|((with_reducible refine gN ?_);(with_reducible refine NN.a5 ?_))|((with_reducible refine gH ?_);((with_reducible refine NH.mk ?s ?_);case s=>(and_intros<;>first|with_reducible rfl|omega)))|((with_reducible refine gC ?_);((with_reducible refine NCall.isF 23 ?_);refine NCall.subE [0] (cp) rfl (by decide) rfl rfl ?_)))<;>(conv=>whnf))|((with_reducible refine gX ?_);(first|(with_reducible first|refine z3 ?_|refine z4 ?_|refine z5 ?_|refine z6 ?_)|((with_reducible refine z29 ?_);intro A B hA hB;(conv=>whnf))))|(with_reducible first|refine z1 ?_|refine z2 ?_)|((with_reducible refine gF ?_);((refine z33 rfl ?_);intro K hK;(conv=>whnf)))|((intro _;skip)<;>(conv=>whnf))))
      all_goals first | (exfalso; omega) | skip
      refine st_auto (α := Nat) (fun k => k ≤ a.length ∧ ∀ (j : Nat) (x y : Po.T), j < k → a[j]? = some x → b[j]? = some y → Po.same x y = true) (fun k => [.keep, .keep, .keep, .keep, .drop, .set (.int .i64 k), .keep, .keep, .keep, .keep, .keep, .keep, .keep, .keep, .keep, .keep, .keep, .keep, .keep, .keep, .keep, .keep, .keep, .keep, .keep, .keep, .keep, .keep, .keep, .keep, .keep, .keep, .keep, .keep, .keep, .keep, .keep, .keep, .keep, .keep, .keep, .keep, .drop, .drop, .drop, .drop, .drop, .drop, .drop, .drop, .drop, .drop, .drop, .drop, .drop, .drop, .drop, .drop, .drop, .drop, .drop]) (fun _ => []) (fun k => a.length - k) 0 ⟨Nat.zero_le _, fun j x y hj => absurd hj (Nat.not_lt_zero _)⟩ ?_ (MemFits.eq rfl) ?_
      · repeat (first | exact FitsSl.nil | refine FitsSl.any ?_ | refine FitsSl.cons (Fit1.int (by first | rfl | omega)) ?_ | refine FitsSl.cons (Fit1.bool rfl) ?_ | refine FitsSl.cons (Fit1.str rfl) ?_ | refine FitsSl.cons (Fit1.same (by intro h; cases h) (by with_reducible rfl)) ?_ | refine FitsSl.cons Fit1.nil_sl ?_ | refine FitsSl.cons (Fit1.hs rfl) ?_ | refine FitsSl.cons (Fit1.hp rfl rfl) ?_ | refine FitsSl.cons (Fit1.sl rfl) ?_ | refine FitsSl.cons (Fit1.ptr rfl rfl) ?_ | refine FitsSl.cons Fit1.raw ?_)
      (intro i ⟨hk, hgone⟩; intro K hK; (conv=>whnf); refine hK _ _ ?_; clear hK K)
      by_cases hlt : i < a.length
      · have hx : a[i]? = some a[i] := List.getElem?_eq_getElem hlt
        have hy : b[i]? = some (b[i]'(by omega)) := List.getElem?_eq_getElem (by omega)
        obtain ⟨pA, pcap, A, cap, hA, c0, c1, c2, c3, c4, c5, c6, c7⟩ := hv.get hx
        obtain ⟨pB, pcap', B, cap', hB, d0, d1, d2, d3, d4, d5, d6, d7⟩ := hw.get hy
        have c := hg _ (List.mem_of_getElem? hx) _ (List.mem_of_getElem? hy) _ _ _ _ hA hB
        clear hg cp
        generalize a[i] = x at *
        generalize (b[i]'(by omega)) = y at *
        generalize hq : Po.same x y = q at *
        obtain ⟨xk, ⟨xpk, xpf, xpv, xpl⟩, xf, xv, xl⟩ := x
        obtain ⟨yk, ⟨ypk, ypf, ypv, ypl⟩, yf, yv, yl⟩ := y
        simp only [Po.cs, Po.T.k, Po.T.p, Po.T.f, Po.T.v, Po.T.l, Pd.T.k, Pd.T.f, Pd.T.v, Pd.T.l] at c c0 c1 c2 c3 c4 c5 c6 c7 d0 d1 d2 d3 d4 d5 d6 d7
        cases q with
        | true =>
          (repeat' (first|(with_reducible first|(refine hK _ _ ?_;clear hK K)|(refine hA ?_;clear hA hB A B)|(refine hB ?_;clear hA hB A B)|(refine hK _ ?_;clear hK K))|((with_reducible refine gO ?_);(first|((with_reducible refine z25 ?_);intro K hK;(conv=>whnf))|(with_reducible refine z0 ?_)))|((first|((with_reducible refine gV ?_);(((with_reducible refine NV.i64 ?s ?_);case s=>omega)))|((with_reducible refine gI ?_);(first|with_reducible refine NIf.not_ ?_|((with_reducible refine NIf.decY ?s ?_);case s=>omega)|((with_reducible refine NIf.yes ?s ?_);case s=>rfl)))|((with_reducible refine gN ?_);(with_reducible first|refine NN.cast ?_|refine NN.a5 ?_|refine NN.keep ?_))|((with_reducible refine gH ?_);((with_reducible refine NH.mk ?s ?_);case s=>(and_intros<;>first|with_reducible rfl|((with_reducible refine gKept ?_);exact rfl)|omega|rfl)))|((with_reducible refine gC ?_);((with_reducible refine NCall.isF 16 ?_);refine NCall.subE [0] (c) rfl (by decide) rfl rfl ?_))|(with_reducible refine NLd.of (by with_reducible assumption) ?_))<;>(conv=>whnf))|((with_reducible refine gNRK ?_);((with_reducible refine st_ordSout ?_)))|((with_reducible refine gNOK ?_);(first|(refine st_ordK1 rfl (by kernel_rfl) rfl ?_; intro K hK; (conv=>whnf))|(refine st_ordK0 rfl (by kernel_rfl) ?_)|(refine st_ordKA rfl rfl (by kernel_rfl) (by intro h; cases h) ?_)))|((with_reducible refine gNEK ?_);(first|(refine st_eachK ?_ ?_; (intro K hK; (conv=>whnf)))|exact st_eachK0))|((with_reducible refine gX ?_);(first|(refine st_orderS [] rfl rfl (by kernel_rfl) _ rfl ?_)|(with_reducible first|refine z3 ?_|refine z4 ?_|refine z5 ?_|refine z6 ?_)|((with_reducible refine z29 ?_);intro A B hA hB;(conv=>whnf))))|(with_reducible first|refine z1 ?_|refine z2 ?_|refine z9 ?_)))
          all_goals
            refine st_round (i + 1) ⟨hlt, fun j x' y' hj h1 h2 => ?_⟩ (by omega) ?_ (MemFits.eq rfl)
            · by_cases e : j = i
              · subst e
                rw [hx] at h1
                rw [hy] at h2
                injection h1 with h1
                injection h2 with h2
                rw [← h1, ← h2]; exact hq
              · exact hgone j x' y' (by omega) h1 h2
            repeat (first | exact FitsSl.nil | refine FitsSl.any ?_ | refine FitsSl.cons (Fit1.int (by first | rfl | omega)) ?_ | refine FitsSl.cons (Fit1.bool rfl) ?_ | refine FitsSl.cons (Fit1.str rfl) ?_ | refine FitsSl.cons (Fit1.same (by intro h; cases h) (by with_reducible rfl)) ?_ | refine FitsSl.cons Fit1.nil_sl ?_ | refine FitsSl.cons (Fit1.hs rfl) ?_ | refine FitsSl.cons (Fit1.hp rfl rfl) ?_ | refine FitsSl.cons (Fit1.sl rfl) ?_ | refine FitsSl.cons (Fit1.ptr rfl rfl) ?_ | refine FitsSl.cons Fit1.raw ?_)
        | false =>
          have hne : Po.sameL a b = false := by
            cases h : Po.sameL a b with
            | false => rfl
            | true => have := (hs2.1 h).2 i _ _ hx hy; rw [hq] at this; cases this
          rw [hne]
          (repeat' (first|(with_reducible first|(refine hK _ _ ?_;clear hK K)|(refine hA ?_;clear hA hB A B)|(refine hK _ ?_;clear hK K))|((with_reducible refine gO ?_);(first|((with_reducible refine z25 ?_);intro K hK;(conv=>whnf))|(with_reducible refine z0 ?_)))|((first|((with_reducible refine gI ?_);(first|with_reducible refine NIf.not_ ?_|((with_reducible refine NIf.decY ?s ?_);case s=>omega)|((with_reducible refine NIf.no ?s ?_);case s=>rfl)))|((with_reducible refine gN ?_);(with_reducible first|refine NN.cast ?_|refine NN.a5 ?_|refine NN.keep ?_))|((with_reducible refine gH ?_);((with_reducible refine NH.mk ?s ?_);case s=>(and_intros<;>first|with_reducible rfl|((with_reducible refine gKept ?_);exact rfl)|omega|rfl)))|((with_reducible refine gC ?_);((with_reducible refine NCall.isF 16 ?_);refine NCall.subE [0] (c) rfl (by decide) rfl rfl ?_))|(with_reducible refine NLd.of (by with_reducible assumption) ?_))<;>(conv=>whnf))|((with_reducible refine gNRK ?_);((with_reducible refine st_ordSout ?_)))|((with_reducible refine gNOK ?_);(first|(refine st_ordK1 rfl (by kernel_rfl) rfl ?_; intro K hK; (conv=>whnf))|(refine st_ordK0 rfl (by kernel_rfl) ?_)|(refine st_ordKA rfl rfl (by kernel_rfl) (by intro h; cases h) ?_)))|((with_reducible refine gNEK ?_);(first|(refine st_eachK ?_ ?_; (intro K hK; (conv=>whnf)))|exact st_eachK0))|((with_reducible refine gX ?_);(first|(refine st_orderS [] rfl rfl (by kernel_rfl) _ rfl ?_)|(with_reducible first|refine z3 ?_|refine z4 ?_|refine z5 ?_|refine z6 ?_|refine z8 ?_)|((with_reducible refine z29 ?_);intro A B hA hB;(conv=>whnf))))|(with_reducible first|refine z1 ?_|refine z2 ?_|refine z12 ?_|refine z13 ?_|refine z20 ?_)|((with_reducible refine gR ?_);((refine z31 rfl ?_);intro K hK;(conv=>whnf)))))
          all_goals exact ⟨rfl, MemFits.pre 1 rfl⟩
      · have hy : Po.sameL a b = true := hs2.2 ⟨hl, fun j x y h1 h2 => hgone j x y (by have := (List.getElem?_eq_some_iff.1 h1).1; omega) h1 h2⟩
        rw [hy]
        (repeat' (first|(with_reducible first|(refine hK _ _ ?_;clear hK K)|(refine hB ?_;clear hA hB A B)|(refine hK _ ?_;clear hK K))|((with_reducible refine gO ?_);(first|((with_reducible refine z25 ?_);intro K hK;(conv=>whnf))|(with_reducible refine z0 ?_)))|((first|((with_reducible refine gI ?_);(((with_reducible refine NIf.decN ?s ?_);case s=>omega)))|((with_reducible refine gN ?_);(with_reducible refine NN.a5 ?_))|((with_reducible refine gH ?_);((with_reducible refine NH.mk ?s ?_);case s=>(and_intros<;>first|with_reducible rfl|omega))))<;>(conv=>whnf))|((with_reducible refine gX ?_);(first|(with_reducible first|refine z3 ?_|refine z4 ?_|refine z7 ?_|refine z8 ?_)|((with_reducible refine z29 ?_);intro A B hA hB;(conv=>whnf))))|(with_reducible first|refine z1 ?_|refine z2 ?_|refine z10 ?_|refine z11 ?_|refine z19 ?_)|((with_reducible refine gR ?_);((refine z31 rfl ?_);intro K hK;(conv=>whnf)))))
        all_goals exact ⟨rfl, MemFits.pre 1 rfl⟩
    · have hne : (decide (k = k') && decide (f = f') && decide (v = v') && bp && Po.sameL a b) = false := by
        cases h : (decide (k = k') && decide (f = f') && decide (v = v') && bp && Po.sameL a b) with
        | false => rfl
        | true =>
          simp only [Bool.and_eq_true, decide_eq_true_eq] at h
          exact (h1 ⟨⟨⟨h.1.1.1.1, h.1.1.1.2, h.1.1.2⟩, h.1.2⟩, (hs2.1 h.2).1⟩).elim
      rw [hne]
      clear hg hs2
      cases bp
      all_goals
        (repeat' (first|(with_reducible first|(refine hK _ _ ?_;clear hK K)|(refine hA ?_;clear hA hB A B)|(refine hB ?_;clear hA hB A B)|(refine hK _ ?_;clear hK K))|((with_reducible refine gO ?_);(first|((with_reducible first|refine z25 ?_|refine z26 ?_);intro K hK;(conv=>whnf))|(with_reducible refine z0 ?_)))|((first|((with_reducible refine gI ?_);(first|with_reducible refine NIf.not_ ?_|((with_reducible refine NIf.decY ?s ?_);case s=>assumption)|((with_reducible refine NIf.decN ?s ?_);case s=>assumption)|((with_reducible refine NIf.yes ?s ?_);case s=>rfl)|((with_reducible refine NIf.no ?s ?_);case s=>rfl)|(with_reducible refine NIf.dec (fun _=>?_) (fun _=>?_))))|((with_reducible refine gN ?_);(with_reducible refine NN.a5 ?_))|((with_reducible refine gH ?_);((with_reducible refine NH.mk ?s ?_);case s=>(and_intros<;>first|with_reducible rfl|omega)))|((with_reducible refine gC ?_);((with_reducible refine NCall.isF 23 ?_);refine NCall.subE [0] (cp) rfl (by decide) rfl rfl ?_)))<;>(conv=>whnf))|((with_reducible refine gX ?_);(first|(with_reducible first|refine z3 ?_|refine z4 ?_|refine z5 ?_|refine z6 ?_|refine z8 ?_)|((with_reducible refine z29 ?_);intro A B hA hB;(conv=>whnf))))|(with_reducible first|refine z1 ?_|refine z2 ?_|refine z12 ?_)|((with_reducible refine gR ?_);((refine z31 rfl ?_);intro K hK;(conv=>whnf)))|((with_reducible refine gF ?_);((refine z33 rfl ?_);intro K hK;(conv=>whnf)))|((intro _;skip)<;>(conv=>whnf))))
      all_goals first
        | exact ⟨rfl, MemFits.pre 1 rfl⟩
        | (exfalso; exact h1 ⟨⟨⟨by omega, by omega, by omega⟩, rfl⟩, by omega⟩)
end
end Go.Proofs.YtpkjnmddembkjaaGreatDoor
namespace Go.Proofs.YtpkjnmddembkjaaGreatDoor
open Go.Sx
set_option maxRecDepth 20000
set_option linter.unusedSimpArgs false
set_option linter.unusedVariables false
set_option maxHeartbeats 4000000
set_option linter.unusedVariables false
theorem small30_c (F : Heap) (t : Tp.T) (lv hv : Value) (x : Po.T) (pu u : Value) (ht : Tp.At F t lv hv) (hs : Po.tot x ≤ 4611686018427387904) (hx : Po.At F x pu u) :
    NCall Tryz.prog 6 [.agg (Tp.cs t lv hv), .agg (Po.cs x pu u)] [hpB F] fun r m => r = .bool (decide ((t.ls.length ≤ 30 ∧ t.hs.length ≤ 12) ∧ Po.size x ≤ 150)) ∧ m = [hpB F] := by
  refine NCall.fits (K := fun r m => r = .bool (decide ((t.ls.length ≤ 30 ∧ t.hs.length ≤ 12) ∧ Po.size x ≤ 150)) ∧ MemFits m [hpB F]) ?_ fun r m' h => ⟨r, _, rfl, h.2, h.1, rfl⟩
  have hlo := ht.l.ok
  have hho := ht.h.ok
  have hok := hx.l.ok
  have hpok := hx.p.ok
  have cs := refsize27_c F _ x pu u (Nat.le_refl _) hs hx
  have hsz := Po.size_tot x
  generalize Po.size x = sz at *
  clear hx ht
  obtain ⟨k, ⟨pk, pf, pv, pl⟩, f0, v0, l⟩ := x
  obtain ⟨tn, ls, hs'⟩ := t
  simp only [Tp.cs, Po.cs, Po.T.k, Po.T.p, Po.T.f, Po.T.v, Po.T.l, Pd.T.k, Pd.T.f, Pd.T.v, Pd.T.l] at *
  refine ncall_of Tryz.func6 rfl (by decide) ?_
  (repeat' (first|(with_reducible first|(refine hK _ _ ?_;clear hK K)|(refine hK _ ?_;clear hK K))|((with_reducible refine gO ?_);(first|((with_reducible first|refine z25 ?_|refine z26 ?_);intro K hK;(conv=>whnf))|(with_reducible refine z0 ?_)))|((first|((with_reducible refine gI ?_);(first|((with_reducible refine NIf.decY ?s ?_);case s=>assumption)|((with_reducible refine NIf.decN ?s ?_);case s=>assumption)|((with_reducible refine NIf.no ?s ?_);case s=>rfl)|(with_reducible refine NIf.dec (fun _=>?_) (fun _=>?_))))|((with_reducible refine gN ?_);(with_reducible refine NN.a5 ?_))|((with_reducible refine gH ?_);((with_reducible refine NH.mk ?s ?_);case s=>(and_intros<;>first|with_reducible rfl|omega)))|((with_reducible refine gC ?_);((with_reducible refine NCall.isF 33 ?_);refine NCall.subE [0] (cs) rfl (by decide) rfl rfl ?_)))<;>(conv=>whnf))|((with_reducible refine gX ?_);((with_reducible first|refine z3 ?_|refine z4 ?_|refine z8 ?_)))|(with_reducible first|refine z1 ?_|refine z2 ?_)|((with_reducible refine gR ?_);((refine z31 rfl ?_);intro K hK;(conv=>whnf)))|((with_reducible refine gF ?_);((refine z33 rfl ?_);intro K hK;(conv=>whnf)))|((intro _;skip)<;>(conv=>whnf))))
  all_goals
    refine ⟨?_, MemFits.pre 1 rfl⟩
    congr 1
    first
      | exact (decide_eq_true (by omega)).symm
      | exact (decide_eq_false (by omega)).symm
      | (apply decide_eq_decide.2; omega)
theorem ctells_c (F : Heap) (hT : TabF F) (t : Tp.T) (lv hv : Value) (x : Po.T) (pu u : Value) (port sw : Int) (ht : Tp.At F t lv hv) (hs : Po.tot x ≤ 1000000000) (hx : Po.At F x pu u) :
    NCall Tryz.prog 3 [.agg (Tp.cs t lv hv), .agg (Po.cs x pu u), .int .i64 port, .int .i64 sw] [hpB F] fun r _ => r = .bool true := by
  have hlo := ht.l.ok
  have hho := ht.h.ok
  have hok := hx.l.ok
  have hpok := hx.p.ok
  have cw := fun G (h : F.le G) => awake30_c G (hT.mono h)
  have csm := small30_c F t lv hv x pu u ht (by omega) hx
  by_cases hsm : (t.ls.length ≤ 30 ∧ t.hs.length ≤ 12) ∧ Po.size x ≤ 150
  rotate_left
  · rw [decide_eq_false hsm] at csm
    have cw := cw F F.le_refl
    clear hx ht hsm
    obtain ⟨k, ⟨pk, pf, pv, pl⟩, f0, v0, l⟩ := x
    obtain ⟨tn, ls, hs'⟩ := t
    simp only [Tp.cs, Po.cs, Po.T.k, Po.T.p, Po.T.f, Po.T.v, Po.T.l, Pd.T.k, Pd.T.f, Pd.T.v, Pd.T.l] at *
    refine ncall_of Tryz.func3 rfl (by decide) ?_
    (repeat' (first|(with_reducible first|(refine hK _ _ ?_;clear hK K)|(refine hA ?_;clear hA hB A B)|(refine hK _ ?_;clear hK K))|((with_reducible refine gO ?_);(first|((with_reducible refine z25 ?_);intro K hK;(conv=>whnf))|(with_reducible refine z0 ?_)))|((first|((with_reducible refine gI ?_);(first|with_reducible refine NIf.not_ ?_|((with_reducible refine NIf.no ?s ?_);case s=>rfl)))|((with_reducible refine gH ?_);((with_reducible refine NH.mk ?s ?_);case s=>(and_intros<;>with_reducible rfl)))|((with_reducible refine gC ?_);(first|((with_reducible refine NCall.isF 6 ?_);refine NCall.subE [0] (csm) rfl (by decide) rfl rfl ?_)|((with_reducible refine NCall.isF 7 ?_);refine NCall.subE [0] (cw) rfl (by decide) rfl rfl ?_))))<;>(conv=>whnf))|((with_reducible refine gX ?_);(first|(with_reducible first|refine z3 ?_|refine z4 ?_|refine z8 ?_)|((with_reducible refine z29 ?_);intro A B hA hB;(conv=>whnf))))|(with_reducible first|refine z1 ?_|refine z2 ?_|refine z12 ?_)|((with_reducible refine gR ?_);((refine z31 rfl ?_);intro K hK;(conv=>whnf)))|((with_reducible refine gF ?_);((refine z33 rfl ?_);intro K hK;(conv=>whnf)))|((intro _;skip)<;>(conv=>whnf))))
    all_goals rfl
  rw [decide_eq_true hsm] at csm
  have cm := mine27_c _ F x pu u (Nat.le_refl _) (by omega) hx
  have ck := fun G pu' u' (h : F.le G) (h2 : Po.At G x pu' u') => check27_c G t lv hv x pu' u' (Tp.right t) (Tp.At.mono h ht) (by omega) (by omega) (by omega) h2 (topo17_c G t lv hv (Tp.At.mono h ht) (by omega) (by omega))
  have dk := fun G (h : F.le G) => refcheck30_c G t lv hv x pu u (Tp.At.mono h ht) (by omega) (by omega) (by omega) (Po.At.mono h hx)
  have cn := fun G (h : F.le G) => named30_c G t lv hv port (Tp.At.mono h ht) (by omega) (by omega)
  have dn := fun G (h : F.le G) => refnamed30_c G t lv hv port (Tp.At.mono h ht) (by omega) (by omega)
  have rR := fun G (h : F.le G) => refright27_c G x pu u (by omega) (Po.At.mono h hx)
  generalize Po.check (Tp.right t) t x = kk at *
  generalize Tp.named t port = nm at *
  by_cases hr : Po.right x = true
  rotate_left
  · have hr : Po.right x = false := by simpa using hr
    rw [hr] at rR
    simp only [Po.Lays] at cm
    have cm := cm.mono (K' := fun r m => ∃ F' pw w, F.le F' ∧ Po.At F' x pw w ∧ SlOk pw x.p.l.length ∧ SlOk w x.l.length ∧ r = .agg (Po.cs x pw w) ∧ m = [hpB F']) fun r m ⟨F', pw, w, h1, h2, h3, h4⟩ => ⟨F', pw, w, h1, h2, h2.p.ok, h2.l.ok, h3, h4⟩
    have hmx : ∀ G pu' u', Po.At G x pu' u' → Po.At G x pu' u' := fun _ _ _ h => h
    clear hx ht hsm hr hs
    obtain ⟨k, ⟨pk, pf, pv, pl⟩, f0, v0, l⟩ := x
    obtain ⟨tn, ls, hs'⟩ := t
    simp only [Tp.cs, Po.cs, Po.T.k, Po.T.p, Po.T.f, Po.T.v, Po.T.l, Pd.T.k, Pd.T.f, Pd.T.v, Pd.T.l] at *
    refine ncall_of Tryz.func3 rfl (by decide) ?_
    (repeat' (first|(with_reducible first|(refine hK _ _ ?_;clear hK K)|(refine hA ?_;clear hA hB A B)|(refine hB ?_;clear hA hB A B)|(refine hK _ ?_;clear hK K))|((with_reducible refine gO ?_);(first|((with_reducible refine z25 ?_);intro K hK;(conv=>whnf))|(with_reducible refine z0 ?_)))|((first|((with_reducible refine gI ?_);(first|(((with_reducible refine NIf.yes ?s ?_);case s=>(simp ;done)))|(((with_reducible refine NIf.no ?s ?_);case s=>(simp ;done)))))|((with_reducible refine gH ?_);((with_reducible refine NH.mk ?s ?_);case s=>(and_intros<;>first|with_reducible rfl|((with_reducible refine gOnes ?_);rfl)|((with_reducible refine gLen ?_);rfl)|((with_reducible refine gKept ?_);exact rfl)|rfl)))|((with_reducible refine gC ?_);(first|((with_reducible refine NCall.isF 6 ?_);refine NCall.subE [0] (csm) rfl (by decide) rfl rfl ?_)|((with_reducible refine NCall.isF 8 ?_);refine NCall.subw [0] _ _ (cm) rfl (by decide) rfl ?_; rintro _ _ ⟨F1, pu1, u1, hle1, hu1, hok1, hok2, rfl, rfl⟩; refine ⟨Nat.le_of_ble_eq_true rfl, _, rfl, ?_⟩)|((with_reducible refine NCall.isF 9 ?_);refine NCall.subE [0] (ck F1 pu1 u1 hle1 hu1) rfl (by decide) rfl rfl ?_)|((with_reducible refine NCall.isF 10 ?_);refine NCall.subE [0] (dk F1 hle1) rfl (by decide) rfl rfl ?_)|((with_reducible refine NCall.isF 11 ?_);refine NCall.subE [0] (cn F1 hle1) rfl (by decide) rfl rfl ?_)|((with_reducible refine NCall.isF 12 ?_);refine NCall.subE [0] (dn F1 hle1) rfl (by decide) rfl rfl ?_)|((with_reducible refine NCall.isF 13 ?_);refine NCall.subE [0] (rR F1 hle1) rfl (by decide) rfl rfl ?_)|((with_reducible refine NCall.isF 7 ?_);refine NCall.subE [0] (cw F1 hle1) rfl (by decide) rfl rfl ?_))))<;>(conv=>whnf))|((with_reducible refine gNRK ?_);((with_reducible refine st_ordSout ?_)))|((with_reducible refine gNOK ?_);(first|(refine st_ordK1 rfl (by kernel_rfl) rfl ?_; intro K hK; (conv=>whnf))|(refine st_ordK1g rfl (by kernel_rfl) rfl ?_; intro K hK; (conv=>whnf))|(refine st_ordK0 rfl (by kernel_rfl) ?_)|(refine st_ordKA rfl rfl (by kernel_rfl) (by intro h; cases h) ?_)))|((with_reducible refine gNEK ?_);(first|(refine st_eachK ?_ ?_; (intro K hK; (conv=>whnf)))|(refine st_eachKg rfl ?_ ?_; (intro K hK; (conv=>whnf)))|exact st_eachK0))|((with_reducible refine gX ?_);(first|(refine st_orderS [0] rfl rfl (by kernel_rfl) _ rfl ?_)|(with_reducible first|refine z3 ?_|refine z4 ?_|refine z6 ?_|refine z8 ?_)|((with_reducible refine z29 ?_);intro A B hA hB;(conv=>whnf))))|(with_reducible first|refine z1 ?_|refine z2 ?_|refine z12 ?_)|((with_reducible refine gR ?_);((refine z31 rfl ?_);intro K hK;(conv=>whnf)))|((with_reducible refine gF ?_);((refine z33 rfl ?_);intro K hK;(conv=>whnf)))|((intro _;skip)<;>(conv=>whnf))))
    all_goals rfl
  rw [hr] at rR
  have hf := Po.right_fits' hr
  have cc := fun G pu' u' (h : Po.At G x pu' u') => cells27_c G x pu' u' (by omega) h
  have dc := fun G (h : F.le G) => refcells30_c G x pu u (by omega) hf (Po.At.mono h hx)
  have ca := fun G pu' u' (h : Po.At G x pu' u') => at27_c _ G x pu' u' sw (Nat.le_refl _) (by omega) hf h
  have da := fun G (h : F.le G) => refat27_c _ G x pu u sw (Nat.le_refl _) (by omega) hf (Po.At.mono h hx)
  have htX := Po.spec_tot sw x hf
  have hmono : ∀ G G' pu' u', G.le G' → Po.At G x pu' u' → Po.At G' x pu' u' := fun G G' _ _ h h2 => Po.At.mono h h2
  generalize Po.spec sw x = X at *
  have cT := fun G pu' u' (h : Po.At G X pu' u') => theirs27_c _ G X pu' u' (Nat.le_refl _) (by omega) h
  have cE := fun G pu' u' pw w (h : Po.At G X pu' u') (h2 : Po.At G X pw w) => refsame27_c G _ X X pu' u' pw w (Nat.le_refl _) (by omega) (by omega) h h2
  rw [(Po.same_eq X X).2 rfl] at cE
  have hmonoX : ∀ G G' pu' u', G.le G' → Po.At G X pu' u' → Po.At G' X pu' u' := fun G G' _ _ h h2 => Po.At.mono h h2
  generalize Po.cells x = nc at *
  simp only [Po.Lays] at cm ca da cT
  have cm := cm.mono (K' := fun r m => ∃ F' pw w, F.le F' ∧ Po.At F' x pw w ∧ SlOk pw x.p.l.length ∧ SlOk w x.l.length ∧ r = .agg (Po.cs x pw w) ∧ m = [hpB F']) fun r m ⟨F', pw, w, h1, h2, h3, h4⟩ => ⟨F', pw, w, h1, h2, h2.p.ok, h2.l.ok, h3, h4⟩
  clear hx ht hsm hr hs htX
  obtain ⟨k, ⟨pk, pf, pv, pl⟩, f0, v0, l⟩ := x
  obtain ⟨Xk, ⟨Xpk, Xpf, Xpv, Xpl⟩, Xf, Xv, Xl⟩ := X
  obtain ⟨tn, ls, hs'⟩ := t
  simp only [Tp.cs, Po.cs, Po.T.k, Po.T.p, Po.T.f, Po.T.v, Po.T.l, Pd.T.k, Pd.T.f, Pd.T.v, Pd.T.l] at *
  refine ncall_of Tryz.func3 rfl (by decide) ?_
  (repeat' (first|(with_reducible first|(refine hK _ _ ?_;clear hK K)|(refine hB ?_;clear hA hB A B)|(refine hK _ ?_;clear hK K))|((with_reducible refine gO ?_);(first|((with_reducible refine z25 ?_);intro K hK;(conv=>whnf))|(with_reducible refine z0 ?_)))|((first|((with_reducible refine gI ?_);(first|(((with_reducible refine NIf.yes ?s ?_);case s=>(simp ;done)))|(((with_reducible refine NIf.no ?s ?_);case s=>(simp ;done)))))|((with_reducible refine gH ?_);((with_reducible refine NH.mk ?s ?_);case s=>(and_intros<;>first|with_reducible rfl|((with_reducible refine gOnes ?_);rfl)|((with_reducible refine gLen ?_);rfl)|((with_reducible refine gKept ?_);exact rfl)|rfl)))|((with_reducible refine gC ?_);(first|((with_reducible refine NCall.isF 6 ?_);refine NCall.subE [0] (csm) rfl (by decide) rfl rfl ?_)|((with_reducible refine NCall.isF 8 ?_);refine NCall.subw [0] _ _ (cm) rfl (by decide) rfl ?_; rintro _ _ ⟨F1, pu1, u1, hle1, hu1, hok1, hok2, rfl, rfl⟩; refine ⟨Nat.le_of_ble_eq_true rfl, _, rfl, ?_⟩)|((with_reducible refine NCall.isF 9 ?_);refine NCall.subE [0] (ck F1 pu1 u1 hle1 hu1) rfl (by decide) rfl rfl ?_)|((with_reducible refine NCall.isF 10 ?_);refine NCall.subE [0] (dk F1 hle1) rfl (by decide) rfl rfl ?_)|((with_reducible refine NCall.isF 11 ?_);refine NCall.subE [0] (cn F1 hle1) rfl (by decide) rfl rfl ?_)|((with_reducible refine NCall.isF 12 ?_);refine NCall.subE [0] (dn F1 hle1) rfl (by decide) rfl rfl ?_)|((with_reducible refine NCall.isF 13 ?_);refine NCall.subE [0] (rR F1 hle1) rfl (by decide) rfl rfl ?_)|((with_reducible refine NCall.isF 14 ?_);refine NCall.subE [0] (cc F1 pu1 u1 hu1) rfl (by decide) rfl rfl ?_)|((with_reducible refine NCall.isF 15 ?_);refine NCall.subE [0] (dc F1 hle1) rfl (by decide) rfl rfl ?_)|((with_reducible refine NCall.isF 18 ?_);refine NCall.subw [0] _ _ (ca F1 pu1 u1 hu1) rfl (by decide) rfl ?_; rintro _ _ ⟨F2, pu2, u2, hle2, hu2, rfl, rfl⟩; refine ⟨Nat.le_of_ble_eq_true rfl, _, rfl, ?_⟩)|((with_reducible refine NCall.isF 17 ?_);refine NCall.subw [0] _ _ (cT F2 pu2 u2 hu2) rfl (by decide) rfl ?_; rintro _ _ ⟨F3, pu3, u3, hle3, hu3, rfl, rfl⟩; refine ⟨Nat.le_of_ble_eq_true rfl, _, rfl, ?_⟩)|((with_reducible refine NCall.isF 19 ?_);refine NCall.subw [0] _ _ (da F3 ((hle1.trans hle2).trans hle3)) rfl (by decide) rfl ?_; rintro _ _ ⟨F4, pu4, u4, hle4, hu4, rfl, rfl⟩; refine ⟨Nat.le_of_ble_eq_true rfl, _, rfl, ?_⟩)|((with_reducible refine NCall.isF 16 ?_);refine NCall.subE [0] (cE F4 pu3 u3 pu4 u4 (hmonoX _ _ _ _ hle4 hu3) hu4) rfl (by decide) rfl rfl ?_)|((with_reducible refine NCall.isF 7 ?_);refine NCall.subE [0] (cw F4 (((hle1.trans hle2).trans hle3).trans hle4)) rfl (by decide) rfl rfl ?_))))<;>(conv=>whnf))|((with_reducible refine gNRK ?_);((with_reducible refine st_ordSout ?_)))|((with_reducible refine gNOK ?_);(first|(refine st_ordK1 rfl (by kernel_rfl) rfl ?_; intro K hK; (conv=>whnf))|(refine st_ordK1g rfl (by kernel_rfl) rfl ?_; intro K hK; (conv=>whnf))|(refine st_ordK0 rfl (by kernel_rfl) ?_)|(refine st_ordKA rfl rfl (by kernel_rfl) (by intro h; cases h) ?_)))|((with_reducible refine gNEK ?_);(first|(refine st_eachK ?_ ?_; (intro K hK; (conv=>whnf)))|(refine st_eachKg rfl ?_ ?_; (intro K hK; (conv=>whnf)))|exact st_eachK0))|((with_reducible refine gX ?_);(first|(refine st_orderS [0] rfl rfl (by kernel_rfl) _ rfl ?_)|(with_reducible first|refine z3 ?_|refine z4 ?_|refine z6 ?_|refine z8 ?_)|((with_reducible refine z29 ?_);intro A B hA hB;(conv=>whnf))))|(with_reducible first|refine z1 ?_|refine z2 ?_)|((with_reducible refine gR ?_);((refine z31 rfl ?_);intro K hK;(conv=>whnf)))|((with_reducible refine gF ?_);((refine z33 rfl ?_);intro K hK;(conv=>whnf)))|((intro _;skip)<;>(conv=>whnf))))
  all_goals rfl
end Go.Proofs.YtpkjnmddembkjaaGreatDoor
