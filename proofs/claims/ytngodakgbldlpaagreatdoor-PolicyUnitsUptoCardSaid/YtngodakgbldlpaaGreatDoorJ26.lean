/-
  Policies: which may be, by the program; Statements that draw their order: what is read alone is read first.
-/
import Derived.Test.YtngodakgbldlpaaGreatDoorJ25
import Derived.Test.YtngodakgbldlpaaGreatDoorSxC
import Derived.OrdersHeld
namespace Go.Proofs.YtngodakgbldlpaaGreatDoor
open Go.Sx
set_option maxRecDepth 20000
set_option linter.unusedSimpArgs false
set_option linter.unusedVariables false
set_option maxHeartbeats 4000000
set_option linter.unusedVariables false
section
variable (F : Heap)
theorem index27_c (q : Po.T → Bool) (v : Value) (l : List Po.T) (hv : Po.Row F v l) (hn : l.length ≤ 4611686018427387904) (g : FuncId) (first captured : List AV)
    (hg : ∀ x ∈ l, ∀ pA A, Po.At F x pA A → NCall Tryz.prog g (first ++ [.agg (Po.cs x pA A)] ++ captured) [hpB F] fun r m => r = .bool (q x) ∧ m = [hpB F]) :
    NCall Tryz.prog 95 [.hs v l.length, .fn g first captured] [hpB F] fun r m => (∃ j : Int, r = .int .i64 j ∧ (0 ≤ j ↔ l.any q = true)) ∧ m = [hpB F] := by
  have hok := hv.ok
  refine ncall_of Tryz.func95 rfl (by decide) ?_
  (repeat' (first|(with_reducible first|(refine hK _ _ ?_;clear hK K)|(refine hK _ ?_;clear hK K))|((with_reducible refine gO ?_);(first|((with_reducible refine z25 ?_);intro K hK;(conv=>whnf))|(with_reducible refine z0 ?_)))|((((with_reducible refine gH ?_);((with_reducible refine NH.mk ?s ?_);case s=>(and_intros<;>omega))))<;>(conv=>whnf))|((with_reducible refine gX ?_);((with_reducible first|refine z3 ?_|refine z4 ?_|refine z5 ?_)))|(with_reducible first|refine z1 ?_|refine z2 ?_)|((with_reducible refine gF ?_);((refine z33 rfl ?_);intro K hK;(conv=>whnf)))))
  refine st_auto (α := Nat) (fun k => k ≤ l.length ∧ ∀ (j : Nat) (x : Po.T), j < k → l[j]? = some x → q x = false) (fun k => [.keep, .keep, .keep, .keep, .drop, .drop, .keep, .keep, .set (.int .i64 k), .drop, .drop, .drop, .drop, .drop, .drop, .drop, .drop, .drop, .drop]) (fun _ => []) (fun k => l.length - k) 0 ⟨Nat.zero_le _, fun j x hj => absurd hj (Nat.not_lt_zero _)⟩ ?_ (MemFits.eq rfl) ?_
  · repeat (first|exact FitsSl.nil|refine FitsSl.any ?_|refine FitsSl.cons (Fit1.int (by first | rfl | omega)) ?_|refine FitsSl.cons (Fit1.same (by intro h; cases h) (by with_reducible rfl)) ?_)
  (intro k ⟨hk, hgone⟩; intro K hK; (conv=>whnf); refine hK _ _ ?_; clear hK K)
  by_cases hlt : k < l.length
  · have hx : l[k]? = some l[k] := List.getElem?_eq_getElem hlt
    obtain ⟨pA, pcap, A, cap, hA, c0, c1, c2, c3, c4, c5, c6, c7⟩ := hv.get hx
    have hAo := hA.l.ok
    have hAp := hA.p.ok
    have hmem := List.mem_of_getElem? hx
    have c := hg _ hmem _ _ hA
    generalize l[k] = x at *
    obtain ⟨yk, ⟨ypk, ypf, ypv, ypl⟩, yf, yv, yl⟩ := x
    simp only [Po.cs, Po.T.k, Po.T.p, Po.T.f, Po.T.v, Po.T.l, Pd.T.k, Pd.T.f, Pd.T.v, Pd.T.l] at c c0 c1 c2 c3 c4 c5 c6 c7 hAo hAp
    cases hq : q (.mk yk (.mk ypk ypf ypv ypl) yf yv yl) with
    | false =>
      rw [hq] at c
      (repeat' (first|(with_reducible first|(refine hK _ _ ?_;clear hK K)|(refine hA ?_;clear hA hB A B)|(refine hB ?_;clear hA hB A B))|((with_reducible refine gO ?_);(first|((with_reducible refine z25 ?_);intro K hK;(conv=>whnf))|(with_reducible refine z0 ?_)))|((first|((with_reducible refine gV ?_);(((with_reducible refine NV.i64 ?s ?_);case s=>omega)))|((with_reducible refine gI ?_);(first|((with_reducible refine NIf.decY ?s ?_);case s=>omega)|((with_reducible refine NIf.no ?s ?_);case s=>rfl)))|((with_reducible refine gN ?_);(with_reducible first|refine NN.cast ?_|refine NN.keep ?_))|((with_reducible refine gH ?_);((with_reducible refine NH.mk ?s ?_);case s=>(and_intros<;>omega)))|((with_reducible refine gC ?_);((with_reducible refine NCall.isF g ?_);refine NCall.subE [0] (c) rfl (by decide) rfl rfl ?_))|(with_reducible refine NLd.of (by with_reducible assumption) ?_))<;>(conv=>whnf))|((with_reducible refine gX ?_);(first|(with_reducible first|refine z3 ?_|refine z4 ?_|refine z5 ?_|refine z6 ?_)|((with_reducible refine z29 ?_);intro A B hA hB;(conv=>whnf))))|(with_reducible first|refine z1 ?_|refine z2 ?_|refine z9 ?_)))
      refine st_round (k + 1) ⟨hlt, fun j y hj hy => ?_⟩ (by omega) ?_ (MemFits.eq rfl)
      · by_cases e : j = k
        · subst e
          rw [hx] at hy
          injection hy with hy
          rw [← hy]; exact hq
        · exact hgone j y (by omega) hy
      · repeat (first|exact FitsSl.nil|refine FitsSl.any ?_|refine FitsSl.cons (Fit1.int (by first | rfl | omega)) ?_|refine FitsSl.cons (Fit1.same (by intro h; cases h) (by with_reducible rfl)) ?_)
    | true =>
      rw [hq] at c
      (repeat' (first|(with_reducible first|(refine hK _ _ ?_;clear hK K)|(refine hA ?_;clear hA hB A B)|(refine hK _ ?_;clear hK K))|((with_reducible refine gO ?_);(first|((with_reducible refine z25 ?_);intro K hK;(conv=>whnf))|(with_reducible refine z0 ?_)))|((first|((with_reducible refine gI ?_);(first|((with_reducible refine NIf.decY ?s ?_);case s=>omega)|((with_reducible refine NIf.yes ?s ?_);case s=>rfl)))|((with_reducible refine gN ?_);(with_reducible first|refine NN.cast ?_|refine NN.keep ?_))|((with_reducible refine gH ?_);((with_reducible refine NH.mk ?s ?_);case s=>(and_intros<;>omega)))|((with_reducible refine gC ?_);((with_reducible refine NCall.isF g ?_);refine NCall.subE [0] (c) rfl (by decide) rfl rfl ?_))|(with_reducible refine NLd.of (by with_reducible assumption) ?_))<;>(conv=>whnf))|((with_reducible refine gX ?_);(first|(with_reducible first|refine z3 ?_|refine z4 ?_|refine z5 ?_|refine z6 ?_|refine z8 ?_)|((with_reducible refine z29 ?_);intro A B hA hB;(conv=>whnf))))|(with_reducible first|refine z1 ?_|refine z2 ?_|refine z12 ?_|refine z13 ?_|refine z20 ?_)|((with_reducible refine gR ?_);((refine z31 rfl ?_);intro K hK;(conv=>whnf)))))
      exact ⟨⟨_, rfl, ⟨fun _ => List.any_eq_true.2 ⟨_, hmem, hq⟩, fun _ => by omega⟩⟩, rfl⟩
  · have hno : ¬ l.any q = true := fun h => by
      obtain ⟨x, hx, hq⟩ := List.any_eq_true.1 h
      obtain ⟨j, hj, e⟩ := List.getElem_of_mem hx
      have := hgone j x (by omega) (by rw [← e]; exact List.getElem?_eq_getElem hj)
      rw [this] at hq
      cases hq
    (repeat' (first|(with_reducible first|(refine hK _ _ ?_;clear hK K)|(refine hB ?_;clear hA hB A B)|(refine hK _ ?_;clear hK K))|((with_reducible refine gO ?_);(first|((with_reducible refine z25 ?_);intro K hK;(conv=>whnf))|(with_reducible refine z0 ?_)))|((((with_reducible refine gI ?_);(((with_reducible refine NIf.decN ?s ?_);case s=>omega))))<;>(conv=>whnf))|((with_reducible refine gX ?_);(first|(with_reducible first|refine z3 ?_|refine z4 ?_|refine z7 ?_|refine z8 ?_)|((with_reducible refine z29 ?_);intro A B hA hB;(conv=>whnf))))|(with_reducible first|refine z1 ?_|refine z2 ?_|refine z10 ?_|refine z11 ?_|refine z19 ?_)|((with_reducible refine gR ?_);((refine z31 rfl ?_);intro K hK;(conv=>whnf)))))
    exact ⟨⟨_, rfl, ⟨fun h => by omega, fun h => (hno h).elim⟩⟩, rfl⟩
theorem contains27_c (q : Po.T → Bool) (v : Value) (l : List Po.T) (hv : Po.Row F v l) (hn : l.length ≤ 4611686018427387904) (g : FuncId) (first captured : List AV)
    (hg : ∀ x ∈ l, ∀ pA A, Po.At F x pA A → NCall Tryz.prog g (first ++ [.agg (Po.cs x pA A)] ++ captured) [hpB F] fun r m => r = .bool (q x) ∧ m = [hpB F]) :
    NCall Tryz.prog 71 [.hs v l.length, .fn g first captured] [hpB F] fun r m => r = .bool (l.any q) ∧ m = [hpB F] := by
  have hi := index27_c F q v l hv hn g first captured hg
  refine ncall_of Tryz.func71 rfl (by decide) ?_
  (repeat' (first|(with_reducible first|(refine hK _ _ ?_;clear hK K)|(refine hK _ ?_;clear hK K))|((with_reducible refine gO ?_);(first|((with_reducible refine z25 ?_);intro K hK;(conv=>whnf))|(with_reducible refine z0 ?_)))|((((with_reducible refine gC ?_);((with_reducible refine NCall.isF 95 ?_);refine NCall.subw [0] _ _ (hi) rfl (by decide) rfl ?_; rintro _ _ ⟨⟨j, rfl, hj⟩, rfl⟩; refine ⟨Nat.le_of_ble_eq_true rfl, _, rfl, ?_⟩)))<;>(conv=>whnf))|((with_reducible refine gX ?_);((with_reducible first|refine z3 ?_|refine z4 ?_|refine z8 ?_)))|(with_reducible first|refine z1 ?_|refine z2 ?_)|((with_reducible refine gR ?_);((refine z31 rfl ?_);intro K hK;(conv=>whnf)))|((with_reducible refine gF ?_);((refine z33 rfl ?_);intro K hK;(conv=>whnf)))))
  all_goals
    refine ⟨?_, rfl⟩
    congr 1
    by_cases h : 0 ≤ j
    · rw [hj.1 h]; exact decide_eq_true h
    · rw [show l.any q = false by cases e : l.any q with | false => rfl | true => exact (h (hj.2 e)).elim]; exact decide_eq_false h
theorem all27_c : ∀ (n : Nat) (x : Po.T) (pu u : Value), Po.tot x ≤ n → Po.tot x ≤ 4611686018427387904 → Po.At F x pu u →
    NCall Tryz.prog 39 [.agg (Po.cs x pu u)] [hpB F] fun r m => r = .bool (Po.fits x) ∧ m = [hpB F]
  | 0, x, pu, u, hn, _, _ => absurd (Po.tot_pos x) (by omega)
  | n + 1, ⟨k, p, f, v, l⟩, pu, u, hn, hs, hx => by
    refine NCall.fits (K := fun r m => r = .bool (Po.fits (.mk k p f v l)) ∧ MemFits m [hpB F]) ?_ fun r m' h => ⟨r, _, rfl, h.2, h.1, rfl⟩
    have hu : Po.Row F u l := hx.l
    have hok := hu.ok
    have hpok : SlOk pu p.l.length := hx.p.ok
    have hll := Po.length_le l
    have e2 := Po.tot_mk k p f v l
    have ih : ∀ x ∈ l, ∀ pA A, Po.At F x pA A → NCall Tryz.prog 72 ([] ++ [.agg (Po.cs x pA A)] ++ []) [hpB F] fun r m => r = .bool (!Po.fits x) ∧ m = [hpB F] := fun x hx pA A hA => by
      have c := all27_c n x pA A (by have := Po.tot_lt (k := k) (q := p) (f := f) (v := v) hx; omega) (by have := Po.tot_lt (k := k) (q := p) (f := f) (v := v) hx; omega) hA
      refine NCall.fits (K := fun r m => r = .bool (!Po.fits x) ∧ MemFits m [hpB F]) ?_ fun r m' h => ⟨r, _, rfl, h.2, h.1, rfl⟩
      have hAo := hA.l.ok
      have hAp := hA.p.ok
      generalize Po.fits x = b at *
      simp only [Po.cs] at *
      refine ncall_of Tryz.func72 rfl (by decide) ?_
      (repeat' (first|(with_reducible first|(refine hK _ _ ?_;clear hK K)|(refine hK _ ?_;clear hK K))|((with_reducible refine gO ?_);(first|((with_reducible refine z25 ?_);intro K hK;(conv=>whnf))|(with_reducible refine z0 ?_)))|((first|((with_reducible refine gH ?_);((with_reducible refine NH.mk ?s ?_);case s=>(and_intros<;>with_reducible rfl)))|((with_reducible refine gC ?_);((with_reducible refine NCall.isF 39 ?_);refine NCall.subE [0] (c) rfl (by decide) rfl rfl ?_)))<;>(conv=>whnf))|((with_reducible refine gX ?_);((with_reducible first|refine z3 ?_|refine z4 ?_|refine z8 ?_)))|(with_reducible first|refine z1 ?_|refine z2 ?_)|((with_reducible refine gR ?_);((refine z31 rfl ?_);intro K hK;(conv=>whnf)))|((with_reducible refine gF ?_);((refine z33 rfl ?_);intro K hK;(conv=>whnf)))|((intro _;skip)<;>(conv=>whnf))))
      all_goals exact ⟨rfl, MemFits.pre 1 rfl⟩
    have cc := contains27_c F (fun x => !Po.fits x) u l hu (by omega) _ [] [] ih
    rw [Po.any_fits] at cc
    have cs := shape27_c F k p f v l pu u (by omega) (by omega) hx
    rw [Po.fits]
    generalize Po.shape k p f v l.length = sb at *
    generalize Po.fitsL l = fb at *
    rw [po_cs] at *
    clear ih hx
    refine ncall_of Tryz.func39 rfl (by decide) ?_
    cases sb
    · (repeat' (first|(with_reducible first|(refine hK _ _ ?_;clear hK K)|(refine hK _ ?_;clear hK K))|((with_reducible refine gO ?_);(first|((with_reducible first|refine z25 ?_|refine z26 ?_);intro K hK;(conv=>whnf))|(with_reducible refine z0 ?_)))|((first|((with_reducible refine gI ?_);(((with_reducible refine NIf.no ?s ?_);case s=>rfl)))|((with_reducible refine gH ?_);((with_reducible refine NH.mk ?s ?_);case s=>(and_intros<;>with_reducible rfl)))|((with_reducible refine gC ?_);((with_reducible refine NCall.isF 70 ?_);refine NCall.subE [0] (cs) rfl (by decide) rfl rfl ?_)))<;>(conv=>whnf))|((with_reducible refine gX ?_);((with_reducible first|refine z3 ?_|refine z4 ?_|refine z8 ?_)))|(with_reducible first|refine z1 ?_|refine z2 ?_)|((with_reducible refine gR ?_);((refine z31 rfl ?_);intro K hK;(conv=>whnf)))|((with_reducible refine gF ?_);((refine z33 rfl ?_);intro K hK;(conv=>whnf)))|((intro _;skip)<;>(conv=>whnf))))
      all_goals exact ⟨rfl, MemFits.pre 1 rfl⟩
    · (repeat' (first|(with_reducible first|(refine hK _ _ ?_;clear hK K)|(refine hK _ ?_;clear hK K))|((with_reducible refine gO ?_);(first|((with_reducible first|refine z25 ?_|refine z26 ?_);intro K hK;(conv=>whnf))|(with_reducible refine z0 ?_)))|((first|((with_reducible refine gI ?_);(((with_reducible refine NIf.yes ?s ?_);case s=>rfl)))|((with_reducible refine gN ?_);(with_reducible refine NN.a5 ?_))|((with_reducible refine gH ?_);((with_reducible refine NH.mk ?s ?_);case s=>(and_intros<;>with_reducible rfl)))|((with_reducible refine gC ?_);(first|((with_reducible refine NCall.isF 70 ?_);refine NCall.subE [0] (cs) rfl (by decide) rfl rfl ?_)|((with_reducible refine NCall.isF 71 ?_);refine NCall.subE [0] (cc) rfl (by decide) rfl rfl ?_))))<;>(conv=>whnf))|((with_reducible refine gX ?_);((with_reducible first|refine z3 ?_|refine z4 ?_|refine z8 ?_)))|(with_reducible first|refine z1 ?_|refine z2 ?_)|((with_reducible refine gR ?_);((refine z31 rfl ?_);intro K hK;(conv=>whnf)))|((with_reducible refine gF ?_);((refine z33 rfl ?_);intro K hK;(conv=>whnf)))|((intro _;skip)<;>(conv=>whnf))))
      all_goals exact ⟨by cases fb <;> rfl, MemFits.pre 1 rfl⟩
theorem right27_c (x : Po.T) (pu u : Value) (hs : Po.tot x ≤ 4611686018427387904) (hx : Po.At F x pu u) : NCall Tryz.prog 15 [.agg (Po.cs x pu u)] [hpB F] fun r m => r = .bool (Po.right x) ∧ m = [hpB F] := by
  refine NCall.fits (K := fun r m => r = .bool (Po.right x) ∧ MemFits m [hpB F]) ?_ fun r m' h => ⟨r, _, rfl, h.2, h.1, rfl⟩
  have c1 := size27_c F _ x pu u (Nat.le_refl _) hs hx
  have c2 := deep27_c F _ x pu u (Nat.le_refl _) hs hx
  have c3 := wide27_c F _ x pu u (Nat.le_refl _) hs hx
  have c4 := all27_c F _ x pu u (Nat.le_refl _) hs hx
  have hd := Po.deep_tot x
  have hz := Po.size_tot x
  have hwd := Po.wide_le x
  have hok := hx.l.ok
  have hpok := hx.p.ok
  unfold Po.right
  generalize Po.fits x = fb at *
  generalize Po.size x = sz at *
  generalize Po.deep x = dp at *
  generalize Po.wide x = wd at *
  simp only [Po.cs] at *
  clear hx
  refine ncall_of Tryz.func15 rfl (by decide) ?_
  by_cases h1 : dp ≤ 8
  · by_cases h2 : sz ≤ 64
    · by_cases h3 : wd ≤ 64
      · (repeat' (first|(with_reducible first|(refine hK _ _ ?_;clear hK K)|(refine hK _ ?_;clear hK K))|((with_reducible refine gO ?_);(first|((with_reducible first|refine z25 ?_|refine z26 ?_);intro K hK;(conv=>whnf))|(with_reducible refine z0 ?_)))|((first|((with_reducible refine gI ?_);(((with_reducible refine NIf.decY ?s ?_);case s=>omega)))|((with_reducible refine gH ?_);((with_reducible refine NH.mk ?s ?_);case s=>(and_intros<;>with_reducible rfl)))|((with_reducible refine gC ?_);(first|((with_reducible refine NCall.isF 16 ?_);refine NCall.subE [0] (c1) rfl (by decide) rfl rfl ?_)|((with_reducible refine NCall.isF 18 ?_);refine NCall.subE [0] (c2) rfl (by decide) rfl rfl ?_)|((with_reducible refine NCall.isF 20 ?_);refine NCall.subE [0] (c3) rfl (by decide) rfl rfl ?_)|((with_reducible refine NCall.isF 39 ?_);refine NCall.subE [0] (c4) rfl (by decide) rfl rfl ?_))))<;>(conv=>whnf))|((with_reducible refine gX ?_);((with_reducible first|refine z3 ?_|refine z4 ?_|refine z8 ?_)))|(with_reducible first|refine z1 ?_|refine z2 ?_)|((with_reducible refine gR ?_);((refine z31 rfl ?_);intro K hK;(conv=>whnf)))|((with_reducible refine gF ?_);((refine z33 rfl ?_);intro K hK;(conv=>whnf)))|((intro _;skip)<;>(conv=>whnf))))
        all_goals first
          | (exfalso; omega)
          | exact ⟨by simp [h1, h2, h3], MemFits.pre 1 rfl⟩
      · (repeat' (first|(with_reducible first|(refine hK _ _ ?_;clear hK K)|(refine hK _ ?_;clear hK K))|((with_reducible refine gO ?_);(first|((with_reducible first|refine z25 ?_|refine z26 ?_);intro K hK;(conv=>whnf))|(with_reducible refine z0 ?_)))|((first|((with_reducible refine gI ?_);(first|((with_reducible refine NIf.decY ?s ?_);case s=>omega)|((with_reducible refine NIf.decN ?s ?_);case s=>omega)))|((with_reducible refine gH ?_);((with_reducible refine NH.mk ?s ?_);case s=>(and_intros<;>with_reducible rfl)))|((with_reducible refine gC ?_);(first|((with_reducible refine NCall.isF 16 ?_);refine NCall.subE [0] (c1) rfl (by decide) rfl rfl ?_)|((with_reducible refine NCall.isF 18 ?_);refine NCall.subE [0] (c2) rfl (by decide) rfl rfl ?_)|((with_reducible refine NCall.isF 20 ?_);refine NCall.subE [0] (c3) rfl (by decide) rfl rfl ?_))))<;>(conv=>whnf))|((with_reducible refine gX ?_);((with_reducible first|refine z3 ?_|refine z4 ?_|refine z8 ?_)))|(with_reducible first|refine z1 ?_|refine z2 ?_)|((with_reducible refine gR ?_);((refine z31 rfl ?_);intro K hK;(conv=>whnf)))|((with_reducible refine gF ?_);((refine z33 rfl ?_);intro K hK;(conv=>whnf)))|((intro _;skip)<;>(conv=>whnf))))
        all_goals first
          | (exfalso; omega)
          | exact ⟨by simp [h3], MemFits.pre 1 rfl⟩
    · (repeat' (first|(with_reducible first|(refine hK _ _ ?_;clear hK K)|(refine hK _ ?_;clear hK K))|((with_reducible refine gO ?_);(first|((with_reducible first|refine z25 ?_|refine z26 ?_);intro K hK;(conv=>whnf))|(with_reducible refine z0 ?_)))|((first|((with_reducible refine gI ?_);(first|((with_reducible refine NIf.decY ?s ?_);case s=>omega)|((with_reducible refine NIf.decN ?s ?_);case s=>omega)|((with_reducible refine NIf.no ?s ?_);case s=>rfl)))|((with_reducible refine gH ?_);((with_reducible refine NH.mk ?s ?_);case s=>(and_intros<;>with_reducible rfl)))|((with_reducible refine gC ?_);(first|((with_reducible refine NCall.isF 16 ?_);refine NCall.subE [0] (c1) rfl (by decide) rfl rfl ?_)|((with_reducible refine NCall.isF 18 ?_);refine NCall.subE [0] (c2) rfl (by decide) rfl rfl ?_))))<;>(conv=>whnf))|((with_reducible refine gX ?_);((with_reducible first|refine z3 ?_|refine z4 ?_|refine z8 ?_)))|(with_reducible first|refine z1 ?_|refine z2 ?_)|((with_reducible refine gR ?_);((refine z31 rfl ?_);intro K hK;(conv=>whnf)))|((with_reducible refine gF ?_);((refine z33 rfl ?_);intro K hK;(conv=>whnf)))|((intro _;skip)<;>(conv=>whnf))))
      all_goals first
        | (exfalso; omega)
        | exact ⟨by simp [h2], MemFits.pre 1 rfl⟩
  · (repeat' (first|(with_reducible first|(refine hK _ _ ?_;clear hK K)|(refine hK _ ?_;clear hK K))|((with_reducible refine gO ?_);(first|((with_reducible first|refine z25 ?_|refine z26 ?_);intro K hK;(conv=>whnf))|(with_reducible refine z0 ?_)))|((first|((with_reducible refine gI ?_);(first|((with_reducible refine NIf.decN ?s ?_);case s=>omega)|((with_reducible refine NIf.no ?s ?_);case s=>rfl)))|((with_reducible refine gH ?_);((with_reducible refine NH.mk ?s ?_);case s=>(and_intros<;>with_reducible rfl)))|((with_reducible refine gC ?_);((with_reducible refine NCall.isF 18 ?_);refine NCall.subE [0] (c2) rfl (by decide) rfl rfl ?_)))<;>(conv=>whnf))|((with_reducible refine gX ?_);((with_reducible first|refine z3 ?_|refine z4 ?_|refine z8 ?_)))|(with_reducible first|refine z1 ?_|refine z2 ?_)|((with_reducible refine gR ?_);((refine z31 rfl ?_);intro K hK;(conv=>whnf)))|((with_reducible refine gF ?_);((refine z33 rfl ?_);intro K hK;(conv=>whnf)))|((intro _;skip)<;>(conv=>whnf))))
    all_goals first
      | (exfalso; omega)
      | exact ⟨by simp [h1], MemFits.pre 1 rfl⟩
end
end Go.Proofs.YtngodakgbldlpaaGreatDoor
namespace Go.Sx
section
variable {P : Program}
def inHeap (sl : List AV) (t : Nat) : Bool :=
  match sl[t]? with
  | some (.hp _ _) => true
  | some (.hs _ _) => true
  | _ => false
/-- What looks at nothing but what is read alone. -/
def heapLoad (sl : List AV) : Op → Bool
  | .load _ (.tmp t) => inHeap sl t
  | .indexAddr _ (.tmp t) _ => inHeap sl t
  | .slice _ (.tmp t) _ _ _ => inHeap sl t
  | _ => false
/-- The next operation that may go first whatever the others do. -/
def nextH (P : Program) (sl : List AV) (done : List Nat) : Nat → List Oper → Option (Nat × Oper)
  | _, [] => none
  | i, o :: os => match done.contains i, readyO o done, pureOp P o.op, heapLoad sl o.op with
    | false, true, true, _ => some (i, o)
    | false, true, false, true => some (i, o)
    | _, _, _, _ => nextH P sl done (i + 1) os
theorem nextH_at {sl : List AV} {done : List Nat} : ∀ (os : List Oper) (i j : Nat) (o : Oper), nextH P sl done i os = some (j, o) → ∃ t, j = i + t ∧ os[t]? = some o
  | [], _, _, _, h => by simp [nextH] at h
  | x :: os, i, j, o, h => by
    unfold nextH at h
    split at h
    · simp only [Option.some.injEq, Prod.mk.injEq] at h
      obtain ⟨rfl, rfl⟩ := h
      exact ⟨0, rfl, rfl⟩
    · simp only [Option.some.injEq, Prod.mk.injEq] at h
      obtain ⟨rfl, rfl⟩ := h
      exact ⟨0, rfl, rfl⟩
    · obtain ⟨t, h1, h2⟩ := nextH_at os (i + 1) j o h
      exact ⟨t + 1, by omega, by simpa using h2⟩
def HpS (F : Heap) (w : World) : Prop := (hpB F).holds w
/-- What is left of a statement that draws its order, in any order. -/
@[irreducible] def NOrdH (P : Program) (F : Heap) (l : List Oper) (n : Nat) (done : List Nat) (sl : List AV) (m : List Blk) (k : List AV → List Blk → Prop) : Prop :=
  ∀ (w0 : World) (S : Own) (a : Act) (w : World), Sim w0 S sl m a w → wpAnyH P .any l.toArray (OrdQ w0 S k) (HpS F) n (listedOf l.length done) a w
theorem st_orderH {Q : Post} {sl : List AV} {m : List Blk} {id : Nat} {l : List Oper} {F : Heap} (_hF : m[0]? = some (hpB F)) (h1 : P.follows .mixedOrders = true) (n : Nat) (hn : l.length = n) (h : NOrdH P F l n [] sl m (normS Q)) : codeK P (.region id l.toArray true) sl m Q := by
  simp only [codeK]
  subst hn
  unfold NDraw
  intro id w0 S a w hs
  unfold NOrdH at h
  refine wp_region_held (S := HpS F) h1 ?_
  have := h w0 S a { w with drawn := w.drawn + 1 } ⟨hs.slots, hs.defers, hs.mem.keep (Nat.le_refl _) (fun _ _ _ _ => rfl), ⟨hs.fr.os, hs.fr.tape, hs.fr.output, hs.fr.size, hs.fr.block⟩, hs.fresh⟩
  show wpAnyH P .any l.toArray (OrdQ w0 S (normS Q)) _ _ _ a _
  simpa [listedOf] using this
theorem HpS.mem {F : Heap} {w : World} (h : HpS F w) : MemOk [hpB F] w := ⟨fun k hk => by rw [List.mem_singleton.1 hk]; exact h, List.pairwise_singleton _ _⟩
section
variable {F : Heap} {l : List Oper} {n i : Nat} {done : List Nat} {sl : List AV} {m : List Blk} {k : List AV → List Blk → Prop}
theorem ordH_first {o : Oper} {v : AV} {sl' : List AV} (hn : nextH P sl done 0 l = some (i, o)) (hc : chkP l done i = true) (hF : m[0]? = some (hpB F))
    (h : NOrdH P F l n (i :: done) sl' m k) {w0 : World} {S : Own} {a : Act} {w : World} (hs : Sim w0 S sl m a w) (hy : YieldsIf P l.toArray (HpS F) o v.den a) (hs' : SlotsOk sl' (a.put o.dst v.den).tmps) :
    wpAnyH P .any l.toArray (OrdQ w0 S k) (HpS F) (n + 1) (listedOf l.length done) a w := by
  obtain ⟨t, ht, ho⟩ := nextH_at l 0 i o hn
  obtain rfl : i = t := by omega
  simp only [chkP, Bool.and_eq_true] at hc
  obtain ⟨⟨h1, h2⟩, h3⟩ := hc
  have ho' : l.toArray[i]? = some o := by simpa using ho
  unfold NOrdH at h
  exact wpAnyH_take ho' h1 h2 h3 (fun c a w hq => by cases hq.1) hy (hs.mem.holds _ (List.mem_of_getElem? hF)) (h w0 S _ w (hs.step hs' hs.mem hs.fr hs.fresh))
theorem st_ordH1 {d : Option Tmp} {op : Op} {t : TypeId} {p : String} {e : Array Edge} (hn : nextH P sl done 0 l = some (i, ⟨d, op, t, p, e, none⟩)) (hc : chkP l done i = true) (hF : m[0]? = some (hpB F))
    (h : ∀ K : List AV → Prop, (∀ sl, NOrdH P F l n (i :: done) sl m k → K sl) → opV P sl [hpB F] op fun v => dstK sl d v K) : NOrdH P F l (n + 1) done sl m k := by
  unfold NOrdH
  intro w0 S a w hs
  obtain ⟨v, h1, h2⟩ := opV_spec hs.slots (h _ fun _ h => h)
  obtain ⟨sl', h3, h4⟩ := dstK_spec h1 hs.slots
  exact ordH_first hn hc hF h3 hs (.inl ⟨rfl, fun w hw => h2 w hw.mem _ rfl⟩) h4
theorem st_ordH0 (_hr : readys done 0 l = []) (hc : chkR l done [] = true) (h : k sl m) : NOrdH P F l n done sl m k := by
  unfold NOrdH
  intro w0 S a w hs
  have hc : Region.ready .any l.toArray (listedOf l.length done) = [] := by simpa [chkR] using hc
  exact wpAnyH_done hc ⟨rfl, sl, m, h, hs⟩ n
/-! ### In the order of the text, as long as that serves -/
def downTo : Nat → List Nat
  | 0 => []
  | j + 1 => j :: downTo j
/-- What is left, from the j-th on. -/
@[irreducible] def NOrdR (P : Program) (F : Heap) (l : List Oper) (n j : Nat) (rest : List Oper) (sl : List AV) (m : List Blk) (k : List AV → List Blk → Prop) : Prop :=
  l.drop j = rest → NOrdH P F l n (downTo j) sl m k
theorem st_orderR {Q : Post} {id : Nat} (hF : m[0]? = some (hpB F)) (h1 : P.follows .mixedOrders = true) (n : Nat) (hn : l.length = n) (h : NOrdR P F l n 0 l sl m (normS Q)) : codeK P (.region id l.toArray true) sl m Q := by
  unfold NOrdR at h
  exact st_orderH hF h1 n hn (h rfl)
theorem st_ordRout {j : Nat} {rest : List Oper} (h : NOrdH P F l n (downTo j) sl m k) : NOrdR P F l n j rest sl m k := by
  unfold NOrdR
  intro _
  exact h
end
end
theorem gNOH {P : Program} {F : Heap} {l : List Oper} {n : Nat} {sl : List AV} {m : List Blk} {k : List AV → List Blk → Prop} {done : List Nat} (h : NOrdH P F l n done sl m k) : NOrdH P F l n done sl m k := h
theorem gNRH {P : Program} {F : Heap} {l : List Oper} {n : Nat} {sl : List AV} {m : List Blk} {k : List AV → List Blk → Prop} {j : Nat} {rest : List Oper} (h : NOrdR P F l n j rest sl m k) : NOrdR P F l n j rest sl m k := h
end Go.Sx

