import Derived.Test.YtaolcaggdddkpaaGreatJ22
import Derived.Test.YtaolcaggdddkpaaGreatJ26
import Derived.Test.YtaolcaggdddkpaaGreatCk10
import Derived.Test.YtaolcaggdddkpaaGreatJ30
import Derived.Test.YtaolcaggdddkpaaGreatJ29
import Derived.Test.YtaolcaggdddkpaaGreatJ21
namespace Go.Proofs.YtaolcaggdddkpaaGreat
open Go.Sx
set_option maxRecDepth 20000
set_option linter.unusedSimpArgs false
set_option linter.unusedVariables false
set_option maxHeartbeats 16000000
theorem RefCases31_c (F : Heap) (x : Po.T) (pu u : Value) (sw : Int) (hs : Po.tot x ≤ 1000000000) (hx : Po.At F x pu u) (hce : Po.right x = true → Po.cells (Po.spec sw x) ≤ 4096) (hc : Po.right x = true → Tr.cnt (Po.spec sw x) Tr.order ≤ 1000000) :
    NCall Tryz.prog 10 [.agg (Po.cs x pu u), .int .i64 sw] [hpB F] fun r m => ∃ F' v, F.le F' ∧ Tr.Row F' v (Tr.ans sw x).1 ∧ r = .tup [.hs v (Tr.ans sw x).1.length, .int .i64 (Tr.ans sw x).2] ∧ m = [hpB F'] := by
  have hok := hx.l.ok
  have hpok := hx.p.ok
  have cR := refright27_c F x pu u (by omega) hx
  refine NCall.fits (K := fun r m => ∃ F' v, F.le F' ∧ Tr.Row F' v (Tr.ans sw x).1 ∧ r.den = (AV.tup [.hs v (Tr.ans sw x).1.length, .int .i64 (Tr.ans sw x).2]).den ∧ MemFits m [hpB F']) ?_ fun r m' ⟨F', v, h1, h2, h3, h4⟩ => ⟨_, _, h3.symm, h4, F', v, h1, h2, rfl, rfl⟩
  unfold Tr.ans
  by_cases hr : Po.right x = true
  rotate_left
  · have hr : Po.right x = false := by simpa using hr
    rw [hr] at cR ⊢
    clear hx hce hc
    obtain ⟨k, ⟨pk, pf, pv, pl⟩, a, v, l⟩ := x
    simp only [po_cs, Po.T.l, Po.T.p, Pd.T.k, Pd.T.f, Pd.T.v, Pd.T.l] at *
    refine ncall_of Tryz.func10 rfl (by decide) ?_
    (repeat' (first|(with_reducible first|(refine hK _ _ ?_;clear hK K)|(refine hA ?_;clear hA hB A B)|(refine hK _ ?_;clear hK K))|((with_reducible refine z25 ?_);intro K hK;(conv=>whnf))|(with_reducible refine z0 ?_)|((first|with_reducible refine NIf.not_ ?_|((with_reducible refine NIf.no ?s ?_);case s=>rfl)|((with_reducible refine NH.mk ?s ?_);case s=>(and_intros<;>with_reducible rfl))|((with_reducible refine NCall.isF 15 ?_);refine NCall.subE [0] (cR) rfl (by decide) rfl rfl ?_))<;>(conv=>whnf))|(with_reducible first|refine z3 ?_|refine z4 ?_|refine z8 ?_)|((with_reducible refine z29 ?_);intro A B hA hB;(conv=>whnf))|(with_reducible first|refine z1 ?_|refine z2 ?_|refine z12 ?_)|((with_reducible refine gR ?_);(refine z31 rfl ?_;intro K hK;(conv=>whnf)))|((with_reducible refine gF ?_);(refine z33 rfl ?_;intro K hK;(conv=>whnf)))|((intro _;skip)<;>(conv=>whnf))))
    all_goals exact ⟨F, .slice none 0 0, F.le_refl, RowF.nil, rfl, MemFits.pre 1 rfl⟩
  rw [hr] at cR
  rw [if_pos hr]
  have hf := Po.right_fits' hr
  have hyf := Po.spec_fits sw x hf
  have hyt := Po.spec_tot sw x hf
  have hyr := Po.spec_right sw x hr
  have hyw : Po.wide (Po.spec sw x) < 1000 := by
    have h := hyr
    unfold Po.right at h
    simp only [Bool.and_eq_true, decide_eq_true_eq] at h
    omega
  have hl : ∀ s, (Po.runs sw (Po.spec sw x) s).length ≤ 1000 := fun s => Nat.le_trans (Po.runs_64 sw _ hyr s) (by decide)
  have cA := refat27_c _ F x pu u sw (Nat.le_refl _) (by omega) hf hx
  have hce := hce hr
  have hc := hc hr
  unfold Tr.all
  clear hx hf hr hyr
  generalize Po.spec sw x = y at *
  have cC := fun G pu u (h : Po.At G y pu u) => refcells30_c G y pu u (by omega) hyf h
  have kC := fun G pu u (h : Po.At G y pu u) => from31_c y sw pu u (by omega) hyf hyw hl Tr.order 0 (by decide) rfl G Tr.start hc h
  generalize Tr.cases sw y Tr.order Tr.start = C at *
  clear hl hc hyf hyw
  generalize Po.cells y = nc at *
  have hAo := fun G pu u (h : Po.At G y pu u) => h.l.ok
  have hAp := fun G pu u (h : Po.At G y pu u) => h.p.ok
  obtain ⟨k, ⟨pk, pf, pv, pl⟩, a, v, l⟩ := x
  obtain ⟨yk, ⟨ypk, ypf, ypv, ypl⟩, yf, yv, yl⟩ := y
  simp only [Po.cs, Po.Lays, Tr.Lays, Tr.start, Po.T.k, Po.T.l, Po.T.p, Po.T.f, Po.T.v, Pd.T.k, Pd.T.f, Pd.T.v, Pd.T.l] at *
  refine ncall_of Tryz.func10 rfl (by decide) ?_
  (repeat' (first|(with_reducible first|(refine hK _ _ ?_;clear hK K)|(refine hB ?_;clear hA hB A B)|(refine hK _ ?_;clear hK K))|((with_reducible refine z25 ?_);intro K hK;(conv=>whnf))|(with_reducible refine z0 ?_)|((first|with_reducible refine NIf.not_ ?_|((with_reducible refine NIf.decN ?s ?_);case s=>omega)|((with_reducible refine NIf.yes ?s ?_);case s=>rfl)|((with_reducible refine NH.mk ?s ?_);case s=>(and_intros<;>first|with_reducible rfl|((with_reducible refine gOnes ?_);rfl)|((with_reducible refine gLen ?_);rfl)))|((with_reducible refine NCall.isF 15 ?_);refine NCall.subE [0] (cR) rfl (by decide) rfl rfl ?_)|((with_reducible refine NCall.isF 30 ?_);refine NCall.subw [0] _ _ (cA) rfl (by decide) rfl ?_;rintro _ _ ⟨F1, pu1, u1, hle1, hA1, rfl, rfl⟩;refine ⟨Nat.le_of_ble_eq_true rfl, _, rfl, ?_⟩)|((with_reducible refine NCall.isF 31 ?_);refine NCall.subE [0] (cC F1 pu1 u1 hA1) rfl (by decide) rfl rfl ?_)|((with_reducible refine NCall.isF 32 ?_);refine NCall.subw [0] _ _ (kC F1 pu1 u1 hA1) rfl (by decide) rfl ?_;rintro _ _ ⟨G5, v5, hl5, hw5, rfl, rfl⟩;refine ⟨Nat.le_of_ble_eq_true rfl, _, rfl, ?_⟩))<;>(conv=>whnf))|(with_reducible first|refine z3 ?_|refine z4 ?_|refine z6 ?_|refine z8 ?_)|((with_reducible refine z29 ?_);intro A B hA hB;(conv=>whnf))|(with_reducible first|refine z1 ?_|refine z2 ?_)|((with_reducible refine gR ?_);(refine z31 rfl ?_;intro K hK;(conv=>whnf)))|((with_reducible refine gF ?_);(refine z33 rfl ?_;intro K hK;(conv=>whnf)))|((intro _;skip)<;>(conv=>whnf))))
  all_goals first | (exfalso; omega) | skip
  all_goals exact ⟨G5, v5, hle1.trans hl5, hw5, rfl, MemFits.pre 1 rfl⟩
def Tr.hitAt (d4 d0 d1 d2 d3 : Bool) : Nat → Bool
  | 0 => d4
  | 1 => d4 && d0
  | 2 => d4 && d0 && d1
  | 3 => d4 && d0 && d1 && d2
  | _ => d4 && d0 && d1 && d2 && d3
theorem reffind31_c (F : Heap) (t : Po.S) (v : Value) (l : List Tr.C) (hv : Tr.Row F v l) (hn : l.length ≤ 4611686018427387904) :
    NCall Tryz.prog 14 [.hs v l.length, .int .i64 t.port, .agg [.int .i64 t.p0, .int .i64 t.p1, .int .i64 t.p2, .int .i64 t.p3]] [hpB F] fun r m => r = .int .i64 (Tr.idx (Tr.hit t) l) ∧ m = [hpB F] := by
  refine NCall.fits (K := fun r m => r = .int .i64 (Tr.idx (Tr.hit t) l) ∧ MemFits m [hpB F]) ?_ fun r m' h => ⟨r, _, rfl, h.2, h.1, rfl⟩
  have hok := hv.ok
  have hd := fun i x h => Tr.idxN_drop (Tr.hit t) (l := l) (i := i) (x := x) h
  have hh := Tr.hit_eq t
  generalize Tr.hit t = q at *
  obtain ⟨t0, t1, t2, t3, t4⟩ := t
  simp only at *
  refine ncall_of Tryz.func14 rfl (by decide) ?_
  (repeat' (first|(with_reducible first|(refine hK _ _ ?_;clear hK K)|(refine hK _ ?_;clear hK K))|((with_reducible refine z25 ?_);intro K hK;(conv=>whnf))|(with_reducible first|refine z0 ?_|refine z3 ?_|refine z4 ?_|refine z5 ?_|refine z1 ?_|refine z2 ?_)|((with_reducible refine gF ?_);(refine z33 rfl ?_;intro K hK;(conv=>whnf)))|((intro _;skip)<;>(conv=>whnf))))
  refine st_auto (α := Nat) (fun k => k ≤ l.length ∧ Tr.idx q l = Tr.idxN q (l.drop k) k) (fun k => [.keep, .keep, .keep, .keep, .keep, .keep, .drop, .set (.int .i64 k), .drop, .drop, .drop, .drop, .drop, .drop, .drop, .drop, .drop, .drop, .drop, .drop, .drop, .drop, .drop, .drop, .drop, .drop, .drop, .drop, .drop, .drop, .drop, .drop, .drop, .drop, .drop, .drop, .drop, .drop, .drop, .drop, .drop, .drop, .drop, .drop, .drop, .drop, .drop, .drop, .drop, .drop, .drop, .drop, .drop, .drop, .drop, .drop, .drop, .drop, .drop, .drop, .drop]) (fun _ => []) (fun k => l.length - k) 0 ⟨Nat.zero_le _, rfl⟩ ?_ (MemFits.eq rfl) ?_
  · repeat (first|exact FitsSl.nil|refine FitsSl.any ?_|refine FitsSl.cons (Fit1.int (by first | rfl | omega)) ?_|refine FitsSl.cons (Fit1.same (by intro h; cases h) (by with_reducible rfl)) ?_)
  (intro k ⟨hk, he⟩; intro K hK; (conv=>whnf); refine hK _ _ ?_; clear hK K)
  by_cases hlt : k < l.length
  · have hx : l[k]? = some l[k] := List.getElem?_eq_getElem hlt
    obtain ⟨A, cap, hA, c0, c1, c2, c3, c4, c5⟩ := hv.get hx
    have hnx := hd k _ hx
    have hq := hh l[k]
    clear hA hd hh
    generalize l[k] = x at *
    generalize q x = b at *
    obtain ⟨⟨x0, x1, x2, x3, x4⟩, xo⟩ := x
    simp only at c0 c1 c2 c3 c4 c5 hq
    generalize hd0 : decide (x1 = -1 ∨ x1 = t1) = d0 at *
    generalize hd1 : decide (x2 = -1 ∨ x2 = t2) = d1 at *
    generalize hd2 : decide (x3 = -1 ∨ x3 = t3) = d2 at *
    generalize hd3 : decide (x4 = -1 ∨ x4 = t4) = d3 at *
    generalize hd4 : decide (x0 = -1 ∨ x0 = t0) = d4 at *
    have hb : b = Tr.hitAt d4 d0 d1 d2 d3 4 := by rw [hq]; cases d0 <;> cases d1 <;> cases d2 <;> cases d3 <;> cases d4 <;> rfl
    subst hb
    clear hq
    have start : ∀ (P : Prop), (∀ e4 : Bool, e4 = d4 → P) → P := fun P h => h d4 rfl
    (repeat' (first|(with_reducible first|(refine hK _ _ ?_;clear hK K)|(refine hA ?_;clear hA hB A B))|((with_reducible first|refine z25 ?_|refine z26 ?_);intro K hK;(conv=>whnf))|(with_reducible refine z0 ?_)|((first|((with_reducible refine NIf.decY ?s ?_);case s=>first|assumption|omega)|((with_reducible refine NIf.decN ?s ?_);case s=>assumption)|(with_reducible first|refine NIf.dec (fun _=>?_) (fun _=>?_)|refine NN.cast ?_|refine NN.a6 ?_|refine NN.keep ?_)|((with_reducible refine NH.mk ?s ?_);case s=>(and_intros<;>omega))|(with_reducible refine NLd.of (by with_reducible assumption) ?_))<;>(conv=>whnf))|(with_reducible first|refine z3 ?_|refine z4 ?_|refine z5 ?_|refine z6 ?_)|((with_reducible refine z29 ?_);intro A B hA hB;(conv=>whnf))|(with_reducible first|refine z1 ?_|refine z2 ?_)))
    all_goals
      refine st_auto (α := Nat) (fun j => j ≤ 4) (fun j => [.keep, .keep, .keep, .keep, .keep, .keep, .keep, .keep, .set (.bool (Tr.hitAt d4 d0 d1 d2 d3 j)), .set (.int .i64 j), .keep, .keep, .keep, .keep, .keep, .keep, .keep, .keep, .keep, .keep, .keep, .keep, .keep, .keep, .keep, .keep, .keep, .keep, .keep, .keep, .keep, .drop, .drop, .drop, .drop, .drop, .drop, .drop, .drop, .drop, .drop, .drop, .drop, .drop, .drop, .drop, .drop, .drop, .drop, .drop, .drop, .drop, .drop, .drop, .drop, .drop, .drop, .drop, .drop, .keep, .keep]) (fun _ => []) (fun j => 4 - j) 0 (Nat.zero_le _) ?_ (MemFits.eq rfl) ?_
      · repeat (first|exact FitsSl.nil|refine FitsSl.any ?_|refine FitsSl.cons (Fit1.bool (by  (simp only [Tr.hitAt, ← hd4]; first | rfl | simp_all))) ?_|refine FitsSl.cons (Fit1.int (by first | rfl | omega)) ?_|refine FitsSl.cons (Fit1.bool rfl) ?_|refine FitsSl.cons (Fit1.same (by intro h; cases h) (by with_reducible rfl)) ?_)
      (intro j hj; intro K hK; (conv=>whnf); refine hK _ _ ?_; clear hK K)
      have hj : j ≤ 4 := hj
      have : j = 0 ∨ j = 1 ∨ j = 2 ∨ j = 3 ∨ j = 4 := by omega
      rcases this with rfl | rfl | rfl | rfl | rfl
      · have hz : Tr.hitAt d4 d0 d1 d2 d3 1 = (Tr.hitAt d4 d0 d1 d2 d3 0 && d0) := rfl
        generalize Tr.hitAt d4 d0 d1 d2 d3 0 = z0' at *
        cases z0'
        all_goals
          (repeat' (first|(with_reducible first|(refine hK _ _ ?_;clear hK K)|(refine hA ?_;clear hA hB A B))|((with_reducible refine z25 ?_);intro K hK;(conv=>whnf))|(with_reducible refine z0 ?_)|((with_reducible first|refine z27 ?_|refine z28 ?_);intro K hK;(conv=>whnf))|(with_reducible refine z24 ?_)|((first|((with_reducible refine NV.i64 ?s ?_);case s=>omega)|((with_reducible refine NIf.decY ?s ?_);case s=>first|assumption|omega)|((with_reducible refine NIf.decN ?s ?_);case s=>assumption)|((with_reducible refine NIf.yes ?s ?_);case s=>rfl)|((with_reducible refine NIf.no ?s ?_);case s=>rfl)|(with_reducible first|refine NIf.dec (fun _=>?_) (fun _=>?_)|refine NN.cast ?_|refine NN.a1 ?_|refine NN.a3 ?_|refine NN.a6 ?_|refine NN.keep ?_)|((with_reducible refine NH.mk ?s ?_);case s=>(and_intros<;>first|with_reducible rfl|omega))|(with_reducible refine NLd.of (by with_reducible assumption) ?_))<;>(conv=>whnf))|((with_reducible refine gX ?_);(first|refine z34 (by kernel_rfl) (by decide +kernel) ?_|(with_reducible first|refine z3 ?_|refine z4 ?_|refine z5 ?_|refine z6 ?_)|((with_reducible refine z29 ?_);intro A B hA hB;(conv=>whnf))))|(with_reducible first|refine z1 ?_|refine z2 ?_|refine z9 ?_)))
          all_goals
            refine st_round 1 (by decide) (by decide) ?_ (MemFits.eq rfl)
            repeat (first|exact FitsSl.nil|refine FitsSl.any ?_|refine FitsSl.cons (Fit1.bool (by  (rw [hz, ← hd0]; simp_all))) ?_|refine FitsSl.cons (Fit1.int (by first | rfl | omega)) ?_|refine FitsSl.cons (Fit1.bool rfl) ?_|refine FitsSl.cons (Fit1.same (by intro h; cases h) (by with_reducible rfl)) ?_)
      · have hz : Tr.hitAt d4 d0 d1 d2 d3 2 = (Tr.hitAt d4 d0 d1 d2 d3 1 && d1) := rfl
        generalize Tr.hitAt d4 d0 d1 d2 d3 1 = z0' at *
        cases z0'
        all_goals
          (repeat' (first|(with_reducible first|(refine hK _ _ ?_;clear hK K)|(refine hA ?_;clear hA hB A B))|((with_reducible refine z25 ?_);intro K hK;(conv=>whnf))|(with_reducible refine z0 ?_)|((with_reducible first|refine z27 ?_|refine z28 ?_);intro K hK;(conv=>whnf))|(with_reducible refine z24 ?_)|((first|((with_reducible refine NV.i64 ?s ?_);case s=>omega)|((with_reducible refine NIf.decY ?s ?_);case s=>first|assumption|omega)|((with_reducible refine NIf.decN ?s ?_);case s=>assumption)|((with_reducible refine NIf.yes ?s ?_);case s=>rfl)|((with_reducible refine NIf.no ?s ?_);case s=>rfl)|(with_reducible first|refine NIf.dec (fun _=>?_) (fun _=>?_)|refine NN.cast ?_|refine NN.a1 ?_|refine NN.a3 ?_|refine NN.a6 ?_|refine NN.keep ?_)|((with_reducible refine NH.mk ?s ?_);case s=>(and_intros<;>first|with_reducible rfl|omega))|(with_reducible refine NLd.of (by with_reducible assumption) ?_))<;>(conv=>whnf))|((with_reducible refine gX ?_);(first|refine z34 (by kernel_rfl) (by decide +kernel) ?_|(with_reducible first|refine z3 ?_|refine z4 ?_|refine z5 ?_|refine z6 ?_)|((with_reducible refine z29 ?_);intro A B hA hB;(conv=>whnf))))|(with_reducible first|refine z1 ?_|refine z2 ?_|refine z9 ?_)))
          all_goals
            refine st_round 2 (by decide) (by decide) ?_ (MemFits.eq rfl)
            repeat (first|exact FitsSl.nil|refine FitsSl.any ?_|refine FitsSl.cons (Fit1.bool (by  (rw [hz, ← hd1]; simp_all))) ?_|refine FitsSl.cons (Fit1.int (by first | rfl | omega)) ?_|refine FitsSl.cons (Fit1.bool rfl) ?_|refine FitsSl.cons (Fit1.same (by intro h; cases h) (by with_reducible rfl)) ?_)
      · have hz : Tr.hitAt d4 d0 d1 d2 d3 3 = (Tr.hitAt d4 d0 d1 d2 d3 2 && d2) := rfl
        generalize Tr.hitAt d4 d0 d1 d2 d3 2 = z0' at *
        cases z0'
        all_goals
          (repeat' (first|(with_reducible first|(refine hK _ _ ?_;clear hK K)|(refine hA ?_;clear hA hB A B))|((with_reducible refine z25 ?_);intro K hK;(conv=>whnf))|(with_reducible refine z0 ?_)|((with_reducible first|refine z27 ?_|refine z28 ?_);intro K hK;(conv=>whnf))|(with_reducible refine z24 ?_)|((first|((with_reducible refine NV.i64 ?s ?_);case s=>omega)|((with_reducible refine NIf.decY ?s ?_);case s=>first|assumption|omega)|((with_reducible refine NIf.decN ?s ?_);case s=>assumption)|((with_reducible refine NIf.yes ?s ?_);case s=>rfl)|((with_reducible refine NIf.no ?s ?_);case s=>rfl)|(with_reducible first|refine NIf.dec (fun _=>?_) (fun _=>?_)|refine NN.cast ?_|refine NN.a1 ?_|refine NN.a3 ?_|refine NN.a6 ?_|refine NN.keep ?_)|((with_reducible refine NH.mk ?s ?_);case s=>(and_intros<;>first|with_reducible rfl|omega))|(with_reducible refine NLd.of (by with_reducible assumption) ?_))<;>(conv=>whnf))|((with_reducible refine gX ?_);(first|refine z34 (by kernel_rfl) (by decide +kernel) ?_|(with_reducible first|refine z3 ?_|refine z4 ?_|refine z5 ?_|refine z6 ?_)|((with_reducible refine z29 ?_);intro A B hA hB;(conv=>whnf))))|(with_reducible first|refine z1 ?_|refine z2 ?_|refine z9 ?_)))
          all_goals
            refine st_round 3 (by decide) (by decide) ?_ (MemFits.eq rfl)
            repeat (first|exact FitsSl.nil|refine FitsSl.any ?_|refine FitsSl.cons (Fit1.bool (by  (rw [hz, ← hd2]; simp_all))) ?_|refine FitsSl.cons (Fit1.int (by first | rfl | omega)) ?_|refine FitsSl.cons (Fit1.bool rfl) ?_|refine FitsSl.cons (Fit1.same (by intro h; cases h) (by with_reducible rfl)) ?_)
      · have hz : Tr.hitAt d4 d0 d1 d2 d3 4 = (Tr.hitAt d4 d0 d1 d2 d3 3 && d3) := rfl
        generalize Tr.hitAt d4 d0 d1 d2 d3 3 = z0' at *
        cases z0'
        all_goals
          (repeat' (first|(with_reducible first|(refine hK _ _ ?_;clear hK K)|(refine hA ?_;clear hA hB A B))|((with_reducible refine z25 ?_);intro K hK;(conv=>whnf))|(with_reducible refine z0 ?_)|((with_reducible first|refine z27 ?_|refine z28 ?_);intro K hK;(conv=>whnf))|(with_reducible refine z24 ?_)|((first|((with_reducible refine NV.i64 ?s ?_);case s=>omega)|((with_reducible refine NIf.decY ?s ?_);case s=>first|assumption|omega)|((with_reducible refine NIf.decN ?s ?_);case s=>assumption)|((with_reducible refine NIf.yes ?s ?_);case s=>rfl)|((with_reducible refine NIf.no ?s ?_);case s=>rfl)|(with_reducible first|refine NIf.dec (fun _=>?_) (fun _=>?_)|refine NN.cast ?_|refine NN.a1 ?_|refine NN.a3 ?_|refine NN.a6 ?_|refine NN.keep ?_)|((with_reducible refine NH.mk ?s ?_);case s=>(and_intros<;>first|with_reducible rfl|omega))|(with_reducible refine NLd.of (by with_reducible assumption) ?_))<;>(conv=>whnf))|((with_reducible refine gX ?_);(first|refine z34 (by kernel_rfl) (by decide +kernel) ?_|(with_reducible first|refine z3 ?_|refine z4 ?_|refine z5 ?_|refine z6 ?_)|((with_reducible refine z29 ?_);intro A B hA hB;(conv=>whnf))))|(with_reducible first|refine z1 ?_|refine z2 ?_|refine z9 ?_)))
          all_goals
            refine st_round 4 (by decide) (by decide) ?_ (MemFits.eq rfl)
            repeat (first|exact FitsSl.nil|refine FitsSl.any ?_|refine FitsSl.cons (Fit1.bool (by  (rw [hz, ← hd3]; simp_all))) ?_|refine FitsSl.cons (Fit1.int (by first | rfl | omega)) ?_|refine FitsSl.cons (Fit1.bool rfl) ?_|refine FitsSl.cons (Fit1.same (by intro h; cases h) (by with_reducible rfl)) ?_)
      · generalize Tr.hitAt d4 d0 d1 d2 d3 4 = b at *
        cases b with
        | false =>
          rw [if_neg (by decide)] at hnx
          (repeat' (first|(with_reducible first|(refine hK _ _ ?_;clear hK K)|(refine hB ?_;clear hA hB A B))|((with_reducible refine z25 ?_);intro K hK;(conv=>whnf))|(with_reducible refine z0 ?_)|((first|((with_reducible refine NV.i64 ?s ?_);case s=>omega)|((with_reducible refine NIf.decN ?s ?_);case s=>omega)|((with_reducible refine NIf.no ?s ?_);case s=>rfl))<;>(conv=>whnf))|(with_reducible first|refine z3 ?_|refine z4 ?_|refine z6 ?_|refine z7 ?_)|((with_reducible refine z29 ?_);intro A B hA hB;(conv=>whnf))|(with_reducible first|refine z1 ?_|refine z2 ?_|refine z9 ?_|refine z10 ?_|refine z11 ?_|refine z19 ?_)))
          all_goals
            refine st_round (k + 1) ⟨hlt, he.trans hnx⟩ (by omega) ?_ (MemFits.eq rfl)
            repeat (first|exact FitsSl.nil|refine FitsSl.any ?_|refine FitsSl.cons (Fit1.int (by first | rfl | omega)) ?_|refine FitsSl.cons (Fit1.same (by intro h; cases h) (by with_reducible rfl)) ?_)
        | true =>
          rw [if_pos rfl] at hnx
          rw [he, hnx]
          (repeat' (first|(with_reducible first|(refine hK _ _ ?_;clear hK K)|(refine hA ?_;clear hA hB A B)|(refine hB ?_;clear hA hB A B)|(refine hK _ ?_;clear hK K))|((with_reducible refine z25 ?_);intro K hK;(conv=>whnf))|(with_reducible refine z0 ?_)|((first|((with_reducible refine NIf.decN ?s ?_);case s=>omega)|((with_reducible refine NIf.yes ?s ?_);case s=>rfl))<;>(conv=>whnf))|(with_reducible first|refine z3 ?_|refine z4 ?_|refine z7 ?_|refine z8 ?_)|((with_reducible refine z29 ?_);intro A B hA hB;(conv=>whnf))|(with_reducible first|refine z1 ?_|refine z2 ?_|refine z10 ?_|refine z11 ?_|refine z12 ?_|refine z13 ?_|refine z19 ?_|refine z20 ?_)|((with_reducible refine gR ?_);(refine z31 rfl ?_;intro K hK;(conv=>whnf)))))
          all_goals exact ⟨rfl, MemFits.pre 1 rfl⟩
  · have hkl : k = l.length := by omega
    subst hkl
    rw [List.drop_length] at he
    rw [he]
    (repeat' (first|(with_reducible first|(refine hK _ _ ?_;clear hK K)|(refine hB ?_;clear hA hB A B)|(refine hK _ ?_;clear hK K))|((with_reducible refine z25 ?_);intro K hK;(conv=>whnf))|(with_reducible refine z0 ?_)|((first|((with_reducible refine NIf.decN ?s ?_);case s=>omega)|((with_reducible refine NH.mk ?s ?_);case s=>(and_intros<;>omega)))<;>(conv=>whnf))|(with_reducible first|refine z3 ?_|refine z4 ?_|refine z7 ?_|refine z8 ?_)|((with_reducible refine z29 ?_);intro A B hA hB;(conv=>whnf))|(with_reducible first|refine z1 ?_|refine z2 ?_|refine z10 ?_|refine z11 ?_|refine z19 ?_)|((with_reducible refine gR ?_);(refine z31 rfl ?_;intro K hK;(conv=>whnf)))))
    all_goals exact ⟨rfl, MemFits.pre 1 rfl⟩
theorem refsamec31_c (F : Heap) (v w : Value) (l : List Tr.C) (hv : Tr.Row F v l) (hw : Tr.Row F w l) (hn : l.length ≤ 4611686018427387904) (hl : ∀ c ∈ l, c.out.length ≤ 1000) :
    NCall Tryz.prog 11 [.hs v l.length, .hs w l.length] [hpB F] fun r m => r = .bool true ∧ m = [hpB F] := by
  refine NCall.fits (K := fun r m => r = .bool true ∧ MemFits m [hpB F]) ?_ fun r m' h => ⟨r, _, rfl, h.2, h.1, rfl⟩
  have hok := hv.ok
  have hok2 := hw.ok
  refine ncall_of Tryz.func11 rfl (by decide) ?_
  (repeat' (first|(with_reducible first|(refine hK _ _ ?_;clear hK K)|(refine hB ?_;clear hA hB A B)|(refine hK _ ?_;clear hK K))|((with_reducible refine z25 ?_);intro K hK;(conv=>whnf))|(with_reducible refine z0 ?_)|((first|((with_reducible refine NIf.no ?s ?_);case s=>(simp ;done))|((with_reducible refine NH.mk ?s ?_);case s=>(and_intros<;>omega)))<;>(conv=>whnf))|(with_reducible first|refine z3 ?_|refine z4 ?_|refine z5 ?_|refine z6 ?_)|((with_reducible refine z29 ?_);intro A B hA hB;(conv=>whnf))|(with_reducible first|refine z1 ?_|refine z2 ?_)|((with_reducible refine gF ?_);(refine z33 rfl ?_;intro K hK;(conv=>whnf)))))
  refine st_auto (α := Nat) (fun k => k ≤ l.length) (fun k => [.keep, .keep, .keep, .keep, .set (.bool false), .set (.int .i64 k), .keep, .keep, .keep, .keep, .keep, .drop, .drop, .drop, .drop, .drop, .drop, .drop, .drop, .drop, .drop, .drop, .drop, .drop, .drop, .drop, .drop, .drop, .drop, .drop, .drop, .drop, .drop, .drop, .drop, .drop, .drop, .drop, .drop, .drop, .drop, .drop, .drop, .drop, .drop, .drop, .drop, .drop, .drop, .drop, .drop, .drop, .drop, .drop, .drop]) (fun _ => []) (fun k => l.length - k) 0 (Nat.zero_le _) ?_ (MemFits.eq rfl) ?_
  · repeat (first|exact FitsSl.nil|refine FitsSl.any ?_|refine FitsSl.cons (Fit1.int (by first | rfl | omega)) ?_|refine FitsSl.cons (Fit1.bool rfl) ?_|refine FitsSl.cons (Fit1.same (by intro h; cases h) (by with_reducible rfl)) ?_)
  (intro k hk; intro K hK; (conv=>whnf); refine hK _ _ ?_; clear hK K)
  by_cases hlt : k < l.length
  · have hx : l[k]? = some l[k] := List.getElem?_eq_getElem hlt
    obtain ⟨A, cap, hA, c0, c1, c2, c3, c4, c5⟩ := hv.get hx
    obtain ⟨B, cap', hB, d0, d1, d2, d3, d4, d5⟩ := hw.get hx
    have hlk := hl _ (List.getElem_mem hlt)
    have hoA := hA.ok
    have hoB := hB.ok
    generalize l[k] = x at *
    have cS := sent27_c F (.slice A x.out.length cap) (.slice B x.out.length cap') x.out x.out hA hB (by omega) (by omega)
    rw [show decide (x.out = x.out) = true by simp] at cS
    clear hA hB
    obtain ⟨⟨x0, x1, x2, x3, x4⟩, xo⟩ := x
    simp only at *
    (repeat' (first|(with_reducible first|(refine hK _ _ ?_;clear hK K)|(refine hA ?_;clear hA hB A B)|(refine hB ?_;clear hA hB A B))|((with_reducible refine z25 ?_);intro K hK;(conv=>whnf))|(with_reducible refine z0 ?_)|((with_reducible first|refine z27 ?_|refine z28 ?_);intro K hK;(conv=>whnf))|(with_reducible refine z24 ?_)|((first|((with_reducible refine NV.i64 ?s ?_);case s=>omega)|((with_reducible refine NIf.no ?s ?_);case s=>(simp ;done))|((with_reducible refine NIf.decY ?s ?_);case s=>omega)|(with_reducible first|refine NN.cast ?_|refine NN.a6 ?_|refine NN.keep ?_)|((with_reducible refine NH.mk ?s ?_);case s=>(and_intros<;>omega))|((with_reducible refine NCallQ.isF 17 ?_);refine NCallQ.subEq [0] _ _ (cS) rfl (by decide) rfl rfl ?_)|(with_reducible refine NLd.of (by with_reducible assumption) ?_))<;>(conv=>whnf))|((with_reducible refine gX ?_);(first|refine z34 (by kernel_rfl) (by decide +kernel) ?_|(with_reducible first|refine z3 ?_|refine z4 ?_|refine z5 ?_|refine z6 ?_)|((with_reducible refine z29 ?_);intro A B hA hB;(conv=>whnf))))|(with_reducible first|refine z1 ?_|refine z2 ?_|refine z9 ?_)|((refine NFlat_iff.2 ⟨⟨?s1,?s2⟩,?_⟩;(case s1=>decide +kernel);(case s2=>decide +kernel))<;>(conv=>whnf))))
    all_goals
      refine st_round (k + 1) hlt (by omega) ?_ (MemFits.eq rfl)
      repeat (first|exact FitsSl.nil|refine FitsSl.any ?_|refine FitsSl.cons (Fit1.int (by first | rfl | omega)) ?_|refine FitsSl.cons (Fit1.bool rfl) ?_|refine FitsSl.cons (Fit1.same (by intro h; cases h) (by with_reducible rfl)) ?_)
  · obtain rfl : k = l.length := by omega
    (repeat' (first|(with_reducible first|(refine hK _ _ ?_;clear hK K)|(refine hB ?_;clear hA hB A B)|(refine hK _ ?_;clear hK K))|((with_reducible refine z25 ?_);intro K hK;(conv=>whnf))|(with_reducible refine z0 ?_)|((first|((with_reducible refine NIf.decN ?s ?_);case s=>omega)|((with_reducible refine NH.mk ?s ?_);case s=>(and_intros<;>omega)))<;>(conv=>whnf))|(with_reducible first|refine z3 ?_|refine z4 ?_|refine z7 ?_|refine z8 ?_)|((with_reducible refine z29 ?_);intro A B hA hB;(conv=>whnf))|(with_reducible first|refine z1 ?_|refine z2 ?_|refine z10 ?_|refine z11 ?_|refine z19 ?_)|((with_reducible refine gR ?_);(refine z31 rfl ?_;intro K hK;(conv=>whnf)))))
    all_goals exact ⟨rfl, MemFits.pre 1 rfl⟩
theorem theirs31_c (F : Heap) (v : Value) (l : List Tr.C) (hv : Tr.Row F v l) (hn : l.length ≤ 1000000) :
    NCall Tryz.prog 12 [.hs v l.length] [hpB F] fun r m => Tr.Lays F l r m := by
  refine Tr.rows_know (t := 78) ?_
  have hok := hv.ok
  refine ncall_of Tryz.func12 rfl (by decide) ?_
  (repeat' (first|(with_reducible first|(refine hK _ _ ?_;clear hK K)|(refine hK _ ?_;clear hK K))|((with_reducible refine z25 ?_);intro K hK;(conv=>whnf))|(with_reducible first|refine z0 ?_|refine z3 ?_|refine z4 ?_|refine z5 ?_|refine z1 ?_|refine z2 ?_)|((with_reducible refine gF ?_);(refine z33 rfl ?_;intro K hK;(conv=>whnf)))))
  refine st_auto (α := Value × List Tr.L) (fun (w, ps) => ps.map (·.x) = l.take ps.length ∧ ps.length ≤ l.length ∧ ∀ p ∈ ps, Po.SRow F p.v p.x.out) (fun (w, ps) => [.keep, .keep, .keep, .set (.sl 1 w ps.length), .set (.int .i64 ps.length), .drop, .drop, .drop, .drop, .drop, .drop, .drop, .drop, .drop, .drop, .drop, .drop, .drop, .drop, .drop, .drop, .drop, .drop, .drop, .drop, .drop, .drop, .drop, .drop, .drop, .keep])
    (fun (w, ps) => [.keep, .set ⟨addrOf w, Tr.psC ps, .row w 78 6 ps.length⟩]) (fun (w, ps) => l.length - ps.length) (.slice none 0 0, []) ⟨rfl, Nat.zero_le _, fun p hp => by simp at hp⟩ ?_ ?_ ?_
  · repeat (first|exact FitsSl.nil|refine FitsSl.any ?_|refine FitsSl.cons (Fit1.int (by first | rfl | omega)) ?_|refine FitsSl.cons (Fit1.same (by intro h; cases h) (by with_reducible rfl)) ?_|refine FitsSl.cons Fit1.nil_sl ?_)
  · exact (MemFits.nilRow _ 78 6).trans (MemFits.congr rfl)
  (intro ⟨w, ps⟩ ⟨hmap, hlen, hall⟩; intro K hK; (conv=>whnf); refine hK _ _ ?_; clear hK K)
  dsimp only
  generalize hk : ps.length = i at *
  by_cases hlt : i < l.length
  · have hx : l[i]? = some l[i] := List.getElem?_eq_getElem hlt
    obtain ⟨A, cap, hA, c0, c1, c2, c3, c4, c5⟩ := hv.get hx
    have hoA := hA.ok
    have hnx : l.take (i + 1) = l.take i ++ [l[i]] := by rw [List.take_add_one, hx]; rfl
    generalize l[i] = x at *
    have hpl := Tr.psC_len ps
    have hpn := Tr.psC_next ps
    generalize hpc : Tr.psC ps = pc at *
    obtain ⟨⟨x0, x1, x2, x3, x4⟩, xo⟩ := x
    simp only at c0 c1 c2 c3 c4 c5 hA hoA
    (repeat' (first|(with_reducible first|(refine hK _ _ ?_;clear hK K)|(refine hA ?_;clear hA hB A B)|(refine hK _ ?_;clear hK K))|((with_reducible refine z25 ?_);intro K hK;(conv=>whnf))|(with_reducible refine z0 ?_)|((first|((with_reducible refine NV.i64 ?s ?_);case s=>omega)|((with_reducible refine NIf.decY ?s ?_);case s=>omega)|(with_reducible first|refine NN.cast ?_|refine NN.a6 ?_|refine NN.keep ?_)|((with_reducible refine NH.mk ?s ?_);case s=>(and_intros<;>first|with_reducible rfl|((with_reducible refine gOnes ?_);rfl)|((with_reducible refine gLen ?_);rfl)|omega|rfl))|(with_reducible refine NLd.of (by with_reducible assumption) ?_))<;>(conv=>whnf))|(with_reducible refine st_ordRout ?_)|((with_reducible refine gNOH ?_);(first|(refine st_ordH1 rfl (by kernel_rfl) rfl ?_;intro K hK;(conv=>whnf))|refine st_ordH0 rfl (by kernel_rfl) ?_|refine st_ordHA rfl rfl (by kernel_rfl) (by intro h; cases h) ?_))|((with_reducible refine gNEH ?_);(first|(refine st_eachH ?_ ?_;(intro K hK;(conv=>whnf)))|exact st_eachH0))|((with_reducible refine gX ?_);(first|refine st_orderR rfl (by kernel_rfl) _ rfl ?_|(with_reducible first|refine z3 ?_|refine z4 ?_|refine z5 ?_|refine z6 ?_)|((with_reducible refine z29 ?_);intro A B hA hB;(conv=>whnf))))|(with_reducible first|refine z1 ?_|refine z2 ?_|refine z9 ?_)|((intro _;skip)<;>(conv=>whnf))))
    all_goals
      rename_i v9
      refine st_round (v9, ps ++ [⟨⟨⟨x0, x1, x2, x3, x4⟩, xo⟩, .slice A xo.length cap⟩]) ⟨by rw [List.map_append, hmap, List.length_append, hk]; exact hnx.symm, by rw [List.length_append, hk]; exact hlt, fun x hx => ?_⟩ (by rw [List.length_append, hk]; show l.length - (i + 1) < l.length - i; omega) ?_ (MemFits.pre 2 ?_)
      · rcases List.mem_append.1 hx with hx | hx
        · exact hall x hx
        · rw [List.mem_singleton.1 hx]; exact hA
      · simp only [List.length_append, hk]
        repeat (first|exact FitsSl.nil|refine FitsSl.any ?_|refine FitsSl.cons (Fit1.int (by first | rfl | omega)) ?_|refine FitsSl.cons (Fit1.same (by intro h; cases h) (by with_reducible rfl)) ?_|refine FitsSl.cons (Fit1.sl rfl) ?_)
      · simp only [autoM, List.take, List.length_append, hk, hpn]
        rw [show i + [(⟨⟨⟨x0, x1, x2, x3, x4⟩, xo⟩, .slice A xo.length cap⟩ : Tr.L)].length = i + 1 from rfl]
        rfl
  · obtain rfl : i = l.length := by omega
    rw [List.take_length] at hmap
    (repeat' (first|(with_reducible first|(refine hK _ _ ?_;clear hK K)|(refine hB ?_;clear hA hB A B)|(refine hK _ ?_;clear hK K))|((with_reducible refine z25 ?_);intro K hK;(conv=>whnf))|(with_reducible refine z0 ?_)|((first|((with_reducible refine NIf.decN ?s ?_);case s=>omega)|((with_reducible refine NH.mk ?s ?_);case s=>(and_intros<;>omega)))<;>(conv=>whnf))|(with_reducible first|refine z3 ?_|refine z4 ?_|refine z7 ?_|refine z8 ?_)|((with_reducible refine z29 ?_);intro A B hA hB;(conv=>whnf))|(with_reducible first|refine z1 ?_|refine z2 ?_|refine z10 ?_|refine z11 ?_|refine z19 ?_)|((with_reducible refine gR ?_);(refine z31 rfl ?_;intro K hK;(conv=>whnf)))))
    all_goals exact ⟨F, w, ps, F.le_refl, hmap, hall, rfl, by rw [hk]; exact MemFits.pick [0, 1] (by decide) rfl⟩
set_option maxHeartbeats 4000000
namespace Tr
def fewN (x : Po.T) : Nat → Nat
  | 0 => 1
  | i + 1 => fewN x i * ((Po.asked i x ((Pd.top i).toNat + 1)).length + 1)
def few (x : Po.T) : Bool := decide (fewN x 5 ≤ 300) && decide (Po.size x ≤ 150)
theorem fewN_next (x : Po.T) (i : Nat) : fewN x (i + 1) = fewN x i * ((Po.asked i x ((Pd.top i).toNat + 1)).length + 1) := by rw [fewN]
theorem fewN_mono (x : Po.T) (i : Nat) : fewN x i ≤ fewN x (i + 1) := by
  rw [fewN_next]
  exact Nat.le_mul_of_pos_right _ (Nat.succ_pos _)
theorem fewN_le (x : Po.T) : ∀ (i j : Nat), i ≤ j → fewN x i ≤ fewN x j
  | i, 0, h => by obtain rfl : i = 0 := by omega
                  exact Nat.le_refl _
  | i, j + 1, h => by
    by_cases e : i = j + 1
    · subst e; exact Nat.le_refl _
    · exact Nat.le_trans (fewN_le x i j (by omega)) (fewN_mono x j)
theorem vl (sw : Int) (x : Po.T) (hf : Po.fits x = true) (i : Nat) : (Po.values i (Po.spec sw x)).length + 1 ≤ (Po.asked i x ((Pd.top i).toNat + 1)).length + 1 := by
  have h := Po.spec_vlen sw i x hf
  rw [Po.asked_values _ x hf]
  omega
theorem few_cells (sw : Int) (x : Po.T) (hf : Po.fits x = true) : ∀ i, Po.cellsN (Po.spec sw x) i ≤ fewN x i
  | 0 => Nat.le_refl _
  | i + 1 => by
    have h1 := Nat.mul_le_mul (few_cells sw x hf i) (vl sw x hf i)
    rw [Po.cellsN, fewN_next]
    omega
theorem few_cnt (sw : Int) (x : Po.T) (hf : Po.fits x = true) : cnt (Po.spec sw x) order ≤ fewN x 5 := by
  have h0 := vl sw x hf 0
  have h1 := vl sw x hf 1
  have h2 := vl sw x hf 2
  have h3 := vl sw x hf 3
  have h4 := vl sw x hf 4
  have e : fewN x 5 = ((Po.asked (4 : Nat) x ((Pd.top (4 : Nat)).toNat + 1)).length + 1) * (((Po.asked (0 : Nat) x ((Pd.top (0 : Nat)).toNat + 1)).length + 1) * (((Po.asked (1 : Nat) x ((Pd.top (1 : Nat)).toNat + 1)).length + 1) * (((Po.asked (2 : Nat) x ((Pd.top (2 : Nat)).toNat + 1)).length + 1) * (((Po.asked (3 : Nat) x ((Pd.top (3 : Nat)).toNat + 1)).length + 1) * 1)))) := by
    rw [fewN_next, fewN_next, fewN_next, fewN_next, fewN_next]
    show 1 * _ * _ * _ * _ * _ = _
    generalize (Po.asked (0 : Nat) x ((Pd.top (0 : Nat)).toNat + 1)).length + 1 = a0
    generalize (Po.asked (1 : Nat) x ((Pd.top (1 : Nat)).toNat + 1)).length + 1 = a1
    generalize (Po.asked (2 : Nat) x ((Pd.top (2 : Nat)).toNat + 1)).length + 1 = a2
    generalize (Po.asked (3 : Nat) x ((Pd.top (3 : Nat)).toNat + 1)).length + 1 = a3
    generalize (Po.asked (4 : Nat) x ((Pd.top (4 : Nat)).toNat + 1)).length + 1 = a4
    rw [Nat.one_mul, Nat.mul_one, Nat.mul_comm _ a4, Nat.mul_assoc (a0 * a1), Nat.mul_assoc a0]
  rw [e]
  exact Nat.mul_le_mul h4 (Nat.mul_le_mul h0 (Nat.mul_le_mul h1 (Nat.mul_le_mul h2 (Nat.mul_le_mul h3 (Nat.le_refl _)))))
theorem few_iff {x : Po.T} (h : few x = true) : fewN x 5 ≤ 300 ∧ Po.size x ≤ 150 := by
  unfold few at h
  simpa using h
end Tr
theorem few31_c (F : Heap) (x : Po.T) (pu u : Value) (hs : Po.tot x ≤ 1000000000) (hx : Po.At F x pu u) :
    NCall Tryz.prog 6 [.agg (Po.cs x pu u)] [hpB F] fun r m => r = .bool (Tr.few x) ∧ m = [hpB F] := by
  refine NCall.fits (K := fun r m => r = .bool (Tr.few x) ∧ ∃ F', F.le F' ∧ MemFits m [hpB F']) ?_ fun r m' ⟨h1, F', h2, h3⟩ => ⟨r, _, rfl, h3.trans (MemFits.less h2 []), h1, rfl⟩
  have hok := hx.l.ok
  have hpok := hx.p.ok
  have cv := fun (G : Heap) (hG : F.le G) (f : Nat) (hf : f ≤ 5) => refvalues27_c G x pu u f (by omega) (by omega) (Po.At.mono hG hx)
  have cs := fun G (hG : F.le G) => refsize27_c G _ x pu u (Nat.le_refl _) (by omega) (Po.At.mono hG hx)
  have hal : ∀ i : Nat, i < 5 → (Po.asked i x ((Pd.top i).toNat + 1)).length ≤ 256 := fun i hi => by
    have h1 := Po.asked_len (i : Int) x ((Pd.top i).toNat + 1)
    have h2 : Pd.top i ≤ 255 := by unfold Pd.top; split <;> first | omega | (split <;> first | omega | (split <;> omega))
    have h3 := Pd.top_nonneg i
    omega
  have hnx := Tr.fewN_next x
  have hmo := fun i (h : i ≤ 5) => Tr.fewN_le x i 5 h
  have h0 : Tr.fewN x 0 = 1 := rfl
  unfold Tr.few
  generalize Po.size x = sz at *
  generalize hC : Tr.fewN x = C at *
  clear hC
  have hsz : True := trivial
  clear hx
  obtain ⟨k, ⟨pk, pf, pv, pl⟩, f, v0, l⟩ := x
  simp only [Srt.Lays, Po.cs, Po.T.k, Po.T.p, Po.T.f, Po.T.v, Po.T.l, Pd.T.k, Pd.T.f, Pd.T.v, Pd.T.l] at *
  refine ncall_of Tryz.func6 rfl (by decide) ?_
  (repeat' (first|(with_reducible first|(refine hK _ _ ?_;clear hK K)|(refine hK _ ?_;clear hK K))|((with_reducible refine z25 ?_);intro K hK;(conv=>whnf))|(with_reducible first|refine z0 ?_|refine z3 ?_|refine z4 ?_|refine z5 ?_|refine z1 ?_|refine z2 ?_)|((with_reducible refine gF ?_);(refine z33 rfl ?_;intro K hK;(conv=>whnf)))|((intro _;skip)<;>(conv=>whnf))))
  refine st_auto (α := Heap × Nat) (fun (G, i) => F.le G ∧ i ≤ 5 ∧ C i ≤ 300) (fun (G, i) => [.keep, .keep, .set (.bool false), .set (.int .i64 (C i : Nat)), .set (.int .i64 i), .drop, .drop, .drop, .drop, .drop, .drop, .drop, .drop, .drop, .drop, .drop, .drop, .drop, .keep, .keep, .keep]) (fun (G, i) => [.set (hpB G)]) (fun (G, i) => 5 - i) (F, 0) ⟨F.le_refl, by decide, by rw [h0]; decide⟩ ?_ (MemFits.eq rfl) ?_
  · repeat (first|exact FitsSl.nil|refine FitsSl.any ?_|refine FitsSl.cons (Fit1.int (by  simp [h0])) ?_|refine FitsSl.cons (Fit1.bool rfl) ?_|refine FitsSl.cons (Fit1.same (by intro h; cases h) (by with_reducible rfl)) ?_)
  (intro ⟨G, i⟩ ⟨hle, hi, hci⟩; intro K hK; (conv=>whnf); refine hK _ _ ?_; clear hK K)
  dsimp only
  by_cases hlt : i < 5
  · have c := (cv G hle i (by omega)).mono (K' := fun r m => ∃ F' v, G.le F' ∧ SlOk v (Po.asked i (.mk k (.mk pk pf pv pl) f v0 l) ((Pd.top i).toNat + 1)).length ∧ r = .hs v (Po.asked i (.mk k (.mk pk pf pv pl) f v0 l) ((Pd.top i).toNat + 1)).length ∧ m = [hpB F']) fun r m ⟨F', v, h1, h2, h3, h4⟩ => ⟨F', v, h1, h2.ok, h3, h4⟩
    have hn := hnx i
    have hl := hal i hlt
    have hmi := hmo (i + 1) (by omega)
    clear cv hnx hal hmo
    generalize Po.asked i (.mk k (.mk pk pf pv pl) f v0 l) ((Pd.top i).toNat + 1) = L at *
    generalize C i = c0 at *
    have hprod : ((c0 : Int) * ((L.length : Int) + 1)) = ((c0 * (L.length + 1) : Nat) : Int) := by push_cast; rfl
    have hb : c0 * (L.length + 1) ≤ 100000 := Nat.le_trans (Nat.mul_le_mul hci (show L.length + 1 ≤ 257 by omega)) (by decide)
    rw [← hn] at hprod hb
    by_cases hgo : C (i + 1) ≤ 300
    · (repeat' (first|(with_reducible first|(refine hK _ _ ?_;clear hK K)|(refine hA ?_;clear hA hB A B)|(refine hB ?_;clear hA hB A B))|((with_reducible refine z25 ?_);intro K hK;(conv=>whnf))|(with_reducible refine z0 ?_)|((first|((with_reducible refine NV.i64 ?s ?_);case s=>omega)|((with_reducible refine NIf.decY ?s ?_);case s=>omega)|((with_reducible refine NIf.decN ?s ?_);case s=>omega)|((with_reducible refine NH.mk ?s ?_);case s=>(and_intros<;>first|with_reducible rfl|omega))|((with_reducible refine NCall.isF 21 ?_);refine NCall.subw [0] _ _ (c) rfl (by decide) rfl ?_;rintro _ _ ⟨F', w', hle2, hok2, rfl, rfl⟩;refine ⟨Nat.le_of_ble_eq_true rfl, _, rfl, ?_⟩))<;>(conv=>whnf))|(with_reducible first|refine z3 ?_|refine z4 ?_|refine z5 ?_|refine z6 ?_)|((with_reducible refine z29 ?_);intro A B hA hB;(conv=>whnf))|(with_reducible first|refine z1 ?_|refine z2 ?_|refine z9 ?_)))
      all_goals first | (exfalso; omega) | skip
      all_goals
        refine st_round (F', i + 1) ⟨hle.trans hle2, hlt, hgo⟩ (show 5 - (i + 1) < 5 - i by omega) ?_ (MemFits.pre 2 rfl)
        repeat (first|exact FitsSl.nil|refine FitsSl.any ?_|refine FitsSl.cons (Fit1.int (by  omega)) ?_|refine FitsSl.cons (Fit1.bool rfl) ?_|refine FitsSl.cons (Fit1.same (by intro h; cases h) (by with_reducible rfl)) ?_)
    · have hno : ¬ C 5 ≤ 300 := fun h => hgo (Nat.le_trans hmi h)
      rw [decide_eq_false hno, Bool.false_and]
      (repeat' (first|(with_reducible first|(refine hK _ _ ?_;clear hK K)|(refine hA ?_;clear hA hB A B)|(refine hK _ ?_;clear hK K))|((with_reducible refine z25 ?_);intro K hK;(conv=>whnf))|(with_reducible refine z0 ?_)|((first|((with_reducible refine NV.i64 ?s ?_);case s=>omega)|((with_reducible refine NIf.decY ?s ?_);case s=>omega)|((with_reducible refine NH.mk ?s ?_);case s=>(and_intros<;>first|with_reducible rfl|omega))|((with_reducible refine NCall.isF 21 ?_);refine NCall.subw [0] _ _ (c) rfl (by decide) rfl ?_;rintro _ _ ⟨F', w', hle2, hok2, rfl, rfl⟩;refine ⟨Nat.le_of_ble_eq_true rfl, _, rfl, ?_⟩))<;>(conv=>whnf))|(with_reducible first|refine z3 ?_|refine z4 ?_|refine z5 ?_|refine z6 ?_|refine z8 ?_)|((with_reducible refine z29 ?_);intro A B hA hB;(conv=>whnf))|(with_reducible first|refine z1 ?_|refine z2 ?_|refine z12 ?_|refine z13 ?_|refine z20 ?_)|((with_reducible refine gR ?_);(refine z31 rfl ?_;intro K hK;(conv=>whnf)))))
      all_goals first | (exfalso; omega) | exact ⟨rfl, F', hle.trans hle2, MemFits.pre 1 rfl⟩
  · obtain rfl : i = 5 := by omega
    rw [decide_eq_true hci, Bool.true_and]
    (repeat' (first|(with_reducible first|(refine hK _ _ ?_;clear hK K)|(refine hB ?_;clear hA hB A B)|(refine hK _ ?_;clear hK K))|((with_reducible refine z25 ?_);intro K hK;(conv=>whnf))|(with_reducible refine z0 ?_)|((first|((with_reducible refine NIf.decN ?s ?_);case s=>omega)|((with_reducible refine NH.mk ?s ?_);case s=>(and_intros<;>with_reducible rfl))|((with_reducible refine NCall.isF 22 ?_);refine NCall.subE [0] (cs G hle) rfl (by decide) rfl rfl ?_))<;>(conv=>whnf))|(with_reducible first|refine z3 ?_|refine z4 ?_|refine z7 ?_|refine z8 ?_)|((with_reducible refine z29 ?_);intro A B hA hB;(conv=>whnf))|(with_reducible first|refine z1 ?_|refine z2 ?_|refine z10 ?_|refine z11 ?_|refine z19 ?_)|((with_reducible refine gR ?_);(refine z31 rfl ?_;intro K hK;(conv=>whnf)))))
    all_goals exact ⟨by first | rfl | (congr 1; exact decide_eq_decide.2 (by omega)), G, hle, MemFits.pre 1 rfl⟩
namespace Tr
def exL : List Po.T := [.mk 2 Po.noneP 4 2 [], .mk 1 (.mk 2 0 0 []) 0 0 []]
def exX : Po.T := .mk 5 (.mk 3 1 1 []) 0 0 exL
def exC : List C := [⟨⟨-1, -1, 1, -1, -1⟩, [⟨2, -1, -1, -1, -1⟩]⟩, ⟨⟨-1, -1, -1, -1, -1⟩, []⟩]
theorem ex_ans : ans 0 exX = (exC, 0) := by decide +kernel
theorem ex_tot : Po.tot exX = 6 := by decide +kernel
theorem ex_cells : Po.cells (Po.spec 0 exX) ≤ 4096 := by decide +kernel
theorem ex_cnt : cnt (Po.spec 0 exX) order ≤ 1000000 := by decide +kernel
theorem ex_idx : idx (hit ⟨0, 0, 0, 0, 0⟩) exC = 1 := by decide +kernel
end Tr
theorem awake31_cases (F : Heap) (b : Nat) :
    NCall Tryz.prog 8 [.agg [.int .i64 5, .int .i64 3, .int .i64 1, .int .i64 1, .raw (.slice none 0 0), .int .i64 0, .int .i64 0, .sl 2 (.slice (some ⟨b, 0, none⟩) 2 2) 2], .int .i64 0]
      [hpB F, ⟨⟨b, 0, none⟩, [.int .i64 2, .int .i64 0, .int .i64 0, .int .i64 0, .raw (.slice none 0 0), .int .i64 4, .int .i64 2, .raw (.slice none 0 0), .int .i64 1, .int .i64 2, .int .i64 0, .int .i64 0, .raw (.slice none 0 0), .int .i64 0, .int .i64 0, .raw (.slice none 0 0)], .row (.slice (some ⟨b, 0, none⟩) 2 2) 41 8 2⟩]
      fun r m => ∃ G v A cap B cap2, F.le G ∧ Tr.Row G v Tr.exC ∧ SlOk v 2 ∧ SlOk (.slice A 1 cap) 1 ∧ G.c ((addrOf v).add 1) (.int .i64 (-1)) ∧ G.c ((addrOf v).add 2) (.int .i64 1) ∧ G.c ((addrOf v).add 3) (.int .i64 (-1)) ∧ G.c ((addrOf v).add 4) (.int .i64 (-1)) ∧ G.c ((addrOf v).add 5) (.slice A 1 cap) ∧ G.c ((addrOf v).add 11) (.slice B 0 cap2) ∧ SlOk (.slice B 0 cap2) 0 ∧ G.c ((addrOf (.slice A 1 cap)).add 0) (.int .i64 2) ∧ r = .tup [.hs v 2, .int .i64 0] ∧ m = [hpB G, hpB noHeap] := by
  have hok : SlOk (.slice (some ⟨b, 0, none⟩) 2 2) 2 := ⟨_, _, rfl, Nat.le_refl _, fun h => by cases h⟩
  generalize hw : Value.slice (some ⟨b, 0, none⟩) 2 2 = w at *
  have e8 : denL ([.int .i64 2, .int .i64 0, .int .i64 0, .int .i64 0, .raw (.slice none 0 0), .int .i64 4, .int .i64 2, .raw (.slice none 0 0), .int .i64 1, .int .i64 2, .int .i64 0, .int .i64 0, .raw (.slice none 0 0), .int .i64 0, .int .i64 0, .raw (.slice none 0 0)] : List AV) = [(⟨.mk 2 Po.noneP 4 2 [], .slice none 0 0, .slice none 0 0⟩ : Po.L), ⟨.mk 1 (.mk 2 0 0 []) 0 0 [], .slice none 0 0, .slice none 0 0⟩].flatMap Po.psV := rfl
  have r8 := rowF_new (F := F) (sz := 8) (enc := Po.psV) hok e8 (fun x _ => rfl)
  have p8 := Po.row_of r8 fun p hp => by
    rcases List.mem_cons.1 hp with rfl | hp
    · exact ⟨RowF.nil, RowF.nil⟩
    · rw [List.mem_singleton.1 hp]; exact ⟨RowF.nil, RowF.nil⟩
  have hat : Po.At (addF F (addrOf w) (denL ([.int .i64 2, .int .i64 0, .int .i64 0, .int .i64 0, .raw (.slice none 0 0), .int .i64 4, .int .i64 2, .raw (.slice none 0 0), .int .i64 1, .int .i64 2, .int .i64 0, .int .i64 0, .raw (.slice none 0 0), .int .i64 0, .int .i64 0, .raw (.slice none 0 0)] : List AV))) Tr.exX (.slice none 0 0) w := ⟨RowF.nil, p8⟩
  have c := Cases31_c _ Tr.exX (.slice none 0 0) w 0 (by rw [Tr.ex_tot]; decide) hat (fun _ => Tr.ex_cells) (fun _ => Tr.ex_cnt)
  rw [Tr.ex_ans] at c
  refine (NCall.pre (args := [.agg [.int .i64 5, .int .i64 3, .int .i64 1, .int .i64 1, .raw (.slice none 0 0), .int .i64 0, .int .i64 0, .sl 2 w 2], .int .i64 0]) c rfl (MemFits.freeze (m := []))).fits fun r m' hr => ?_
  obtain ⟨G, u, h1, h2, rfl, rfl⟩ := hr
  obtain ⟨A, cap, hA, c0, c1, c2, c3, c4, c5⟩ := h2.get (i := 0) (x := ⟨⟨-1, -1, 1, -1, -1⟩, [⟨2, -1, -1, -1, -1⟩]⟩) rfl
  obtain ⟨B, cap2, hB, d0, d1, d2, d3, d4, d5⟩ := h2.get (i := 1) (x := ⟨⟨-1, -1, -1, -1, -1⟩, []⟩) rfl
  obtain ⟨g0, g1, g2, g3, g4⟩ := RowF.get5 (f0 := fun s : Po.S => .int .i64 s.port) (f1 := fun s => .int .i64 s.p0) (f2 := fun s => .int .i64 s.p1) (f3 := fun s => .int .i64 s.p2) (f4 := fun s => .int .i64 s.p3) hA (k := 0) (by decide)
  exact ⟨_, _, rfl, (MemFits.noHeap _).trans (MemFits.pick [1, 0] (by decide) rfl), G, u, A, cap, B, cap2, addF.old.trans h1, h2, h2.ok, hA.ok, c1, c2, c3, c4, c5, d5, hB.ok, g0, rfl, rfl⟩
theorem awake31_c (F : Heap) : NCall Tryz.prog 7 [] [hpB F] fun r m => r = .bool true ∧ m = [hpB F] := by
  refine NCall.fits (K := fun r m => r = .bool true ∧ ∃ F', F.le F' ∧ MemFits m [hpB F']) ?_ fun r m' ⟨h1, F', h2, h3⟩ => ⟨r, _, rfl, h3.trans (MemFits.less h2 []), h1, rfl⟩
  have cf := fun G v (h : Tr.Row G v Tr.exC) => find31_c G ⟨0, 0, 0, 0, 0⟩ v Tr.exC h (by decide)
  rw [Tr.ex_idx] at cf
  have cf : ∀ G v (h : Tr.Row G v Tr.exC), NCall Tryz.prog 13 [.hs v 2, .int .i64 0, .agg [.int .i64 0, .int .i64 0, .int .i64 0, .int .i64 0]] [hpB G] fun r m => r = .int .i64 1 ∧ m = [hpB G] := cf
  refine ncall_of Tryz.func7 rfl (by decide) ?_
  (repeat' (first|(with_reducible first|(refine hK _ _ ?_;clear hK K)|(refine hK _ ?_;clear hK K))|((with_reducible first|refine z25 ?_|refine z26 ?_);intro K hK;(conv=>whnf))|(with_reducible refine z0 ?_)|((first|((with_reducible refine NIf.yes ?s ?_);case s=>(simp ;done))|(with_reducible first|refine NN.lit ?_|refine NN.a5 ?_|refine NN.a6 ?_)|((with_reducible refine NH.mk ?s ?_);case s=>(and_intros<;>first|with_reducible rfl|((with_reducible refine gOnes ?_);rfl)|((with_reducible refine gLen ?_);rfl)|omega))|((with_reducible refine NCall.isF 8 ?_);refine NCall.subw [0, 2] _ _ (awake31_cases F _) rfl (by decide) rfl ?_;rintro _ _ ⟨G, v, A, cap, B, cap2, hle, hrow, hok, hokA, c1, c2, c3, c4, c5, d5, hokB, g0, rfl, rfl⟩;refine ⟨Nat.le_of_ble_eq_true rfl, _, rfl, ?_⟩)|((with_reducible refine NCall.isF 13 ?_);refine NCall.subE [0] (cf G v hrow) rfl (by decide) rfl rfl ?_)|(with_reducible refine NLd.of (by with_reducible assumption) ?_))<;>(conv=>whnf))|(with_reducible first|refine z3 ?_|refine z4 ?_|refine z8 ?_|refine z1 ?_|refine z2 ?_)|((with_reducible refine gR ?_);(refine z31 rfl ?_;intro K hK;(conv=>whnf)))|((with_reducible refine gF ?_);(refine z33 rfl ?_;intro K hK;(conv=>whnf)))|((refine NFlat_iff.2 ⟨⟨?s1,?s2⟩,?_⟩;(case s1=>decide +kernel);(case s2=>decide +kernel))<;>(conv=>whnf))|((intro _;skip)<;>(conv=>whnf))))
  all_goals exact ⟨rfl, G, hle, MemFits.pre 1 rfl⟩
end Go.Proofs.YtaolcaggdddkpaaGreat
