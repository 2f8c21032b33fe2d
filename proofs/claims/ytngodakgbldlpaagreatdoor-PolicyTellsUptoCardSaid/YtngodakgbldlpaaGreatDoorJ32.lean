import Derived.Test.YtngodakgbldlpaaGreatDoorJ6
import Derived.Test.YtngodakgbldlpaaGreatDoorJ31
import Derived.Test.YtngodakgbldlpaaGreatDoorJ21
import Derived.Test.YtngodakgbldlpaaGreatDoorJ29
import Derived.Test.YtngodakgbldlpaaGreatDoorJ11
namespace Go.Proofs.YtngodakgbldlpaaGreatDoor
open Go.Sx
set_option maxRecDepth 20000
set_option linter.unusedSimpArgs false
set_option linter.unusedVariables false
set_option maxHeartbeats 4000000
set_option linter.unusedVariables false
section
variable (F : Heap)
theorem index27_c (q : Po.T → Bool) (v : Value) (l : List Po.T) (hv : Po.Row F v l) (hn : l.length ≤ 4611686018427387904) (g : FuncId) (first captured : List AV)
    (hg : ∀ x ∈ l, ∀ pA A, Po.At F x pA A → NCall Tryz.prog g (first ++ [.agg (Po.cs x pA A)] ++ captured) [hpB F] fun r m => r = .bool (q x) ∧ m = [hpB F]) :
    NCall Tryz.prog 95 [.hs v l.length, .fn g first captured] [hpB F] fun r m => (∃ j : Int, r = .int .i64 j ∧ (0 ≤ j ↔ l.any q = true)) ∧ m = [hpB F] := by
  have hok := hv.ok
  refine ncall_of Tryz.func95 rfl (by decide) ?_
  (repeat' (first|(with_reducible first|(refine hK _ _ ?_;clear hK K)|(refine hK _ ?_;clear hK K))|((with_reducible refine gO ?_);(first|((with_reducible refine z25 ?_);intro K hK;(conv=>whnf))|(with_reducible refine z0 ?_)))|((((with_reducible refine gH ?_;refine NH.mk ?s ?_);case s=>(and_intros<;>omega)))<;>(conv=>whnf))|(with_reducible refine gX ?_;first|refine z3 ?_|refine z4 ?_|refine z5 ?_)|(with_reducible first|refine z1 ?_|refine z2 ?_)|((with_reducible refine gF ?_);((refine z33 rfl ?_);intro K hK;(conv=>whnf)))))
  refine st_auto (α := Nat) (fun k => k ≤ l.length ∧ ∀ (j : Nat) (x : Po.T), j < k → l[j]? = some x → q x = false) (fun k => [.keep, .keep, .keep, .keep, .drop, .drop, .keep, .keep, .set (.int .i64 k), .drop, .drop, .drop, .drop, .drop, .drop, .drop, .drop, .drop, .drop]) (fun _ => []) (fun k => l.length - k) 0 ⟨Nat.zero_le _, fun j x hj => absurd hj (Nat.not_lt_zero _)⟩ ?_ (MemFits.eq rfl) ?_
  · repeat (first|exact FitsSl.nil|refine FitsSl.any ?_|refine FitsSl.cons (Fit1.int (by first | rfl | omega)) ?_|refine FitsSl.cons (Fit1.same (by intro h; cases h) (by with_reducible rfl)) ?_)
  (intro k ⟨hk, hgone⟩; intro K hK; (conv=>whnf); refine hK _ _ ?_; clear hK K)
  by_cases hlt : k < l.length
  · have hx : l[k]? = some l[k] := List.getElem?_eq_getElem hlt
    obtain ⟨pA, pcap, A, cap, hA, c0, c1, c2, c3, c4, c5, c6, c7⟩ := hv.get hx
    have hAo := hA.l.ok
    have hAp := hA.p.ok
    have hmem := List.mem_of_getElem? hx
    have c := hg _ hmem _ _ hA
    generalize l[k] = x at *
    obtain ⟨yk, ⟨ypk, ypf, ypv, ypl⟩, yf, yv, yl⟩ := x
    simp only [Po.cs, Po.T.k, Po.T.p, Po.T.f, Po.T.v, Po.T.l, Pd.T.k, Pd.T.f, Pd.T.v, Pd.T.l] at c c0 c1 c2 c3 c4 c5 c6 c7 hAo hAp
    cases hq : q (.mk yk (.mk ypk ypf ypv ypl) yf yv yl) with
    | false =>
      rw [hq] at c
      (repeat' (first|(with_reducible first|(refine hK _ _ ?_;clear hK K)|(refine hA ?_;clear hA hB A B)|(refine hB ?_;clear hA hB A B))|((with_reducible refine gO ?_);(first|((with_reducible refine z25 ?_);intro K hK;(conv=>whnf))|(with_reducible refine z0 ?_)))|((first|((with_reducible refine gV ?_);(((with_reducible refine NV.i64 ?s ?_);case s=>omega)))|((with_reducible refine gI ?_);(first|((with_reducible refine NIf.decY ?s ?_);case s=>omega)|((with_reducible refine NIf.no ?s ?_);case s=>rfl)))|(with_reducible refine gN ?_;first|refine NN.cast ?_|refine NN.keep ?_)|((with_reducible refine gH ?_;refine NH.mk ?s ?_);case s=>(and_intros<;>omega))|((with_reducible refine gC ?_;refine NCall.isF g ?_);refine NCall.subE [0] (c) rfl (by decide) rfl rfl ?_)|(with_reducible refine NLd.of (by with_reducible assumption) ?_))<;>(conv=>whnf))|((with_reducible refine gX ?_);(first|(with_reducible first|refine z3 ?_|refine z4 ?_|refine z5 ?_|refine z6 ?_)|((with_reducible refine z29 ?_);intro A B hA hB;(conv=>whnf))))|(with_reducible first|refine z1 ?_|refine z2 ?_|refine z9 ?_)))
      refine st_round (k + 1) ⟨hlt, fun j y hj hy => ?_⟩ (by omega) ?_ (MemFits.eq rfl)
      · by_cases e : j = k
        · subst e
          rw [hx] at hy
          injection hy with hy
          rw [← hy]; exact hq
        · exact hgone j y (by omega) hy
      · repeat (first|exact FitsSl.nil|refine FitsSl.any ?_|refine FitsSl.cons (Fit1.int (by first | rfl | omega)) ?_|refine FitsSl.cons (Fit1.same (by intro h; cases h) (by with_reducible rfl)) ?_)
    | true =>
      rw [hq] at c
      (repeat' (first|(with_reducible first|(refine hK _ _ ?_;clear hK K)|(refine hA ?_;clear hA hB A B)|(refine hK _ ?_;clear hK K))|((with_reducible refine gO ?_);(first|((with_reducible refine z25 ?_);intro K hK;(conv=>whnf))|(with_reducible refine z0 ?_)))|((first|((with_reducible refine gI ?_);(first|((with_reducible refine NIf.decY ?s ?_);case s=>omega)|((with_reducible refine NIf.yes ?s ?_);case s=>rfl)))|(with_reducible refine gN ?_;first|refine NN.cast ?_|refine NN.keep ?_)|((with_reducible refine gH ?_;refine NH.mk ?s ?_);case s=>(and_intros<;>omega))|((with_reducible refine gC ?_;refine NCall.isF g ?_);refine NCall.subE [0] (c) rfl (by decide) rfl rfl ?_)|(with_reducible refine NLd.of (by with_reducible assumption) ?_))<;>(conv=>whnf))|((with_reducible refine gX ?_);(first|(with_reducible first|refine z3 ?_|refine z4 ?_|refine z5 ?_|refine z6 ?_|refine z8 ?_)|((with_reducible refine z29 ?_);intro A B hA hB;(conv=>whnf))))|(with_reducible first|refine z1 ?_|refine z2 ?_|refine z12 ?_|refine z13 ?_|refine z20 ?_)|((with_reducible refine gR ?_);((refine z31 rfl ?_);intro K hK;(conv=>whnf)))))
      exact ⟨⟨_, rfl, ⟨fun _ => List.any_eq_true.2 ⟨_, hmem, hq⟩, fun _ => by omega⟩⟩, rfl⟩
  · have hno : ¬ l.any q = true := fun h => by
      obtain ⟨x, hx, hq⟩ := List.any_eq_true.1 h
      obtain ⟨j, hj, e⟩ := List.getElem_of_mem hx
      have := hgone j x (by omega) (by rw [← e]; exact List.getElem?_eq_getElem hj)
      rw [this] at hq
      cases hq
    (repeat' (first|(with_reducible first|(refine hK _ _ ?_;clear hK K)|(refine hB ?_;clear hA hB A B)|(refine hK _ ?_;clear hK K))|((with_reducible refine gO ?_);(first|((with_reducible refine z25 ?_);intro K hK;(conv=>whnf))|(with_reducible refine z0 ?_)))|((((with_reducible refine gI ?_);(((with_reducible refine NIf.decN ?s ?_);case s=>omega))))<;>(conv=>whnf))|((with_reducible refine gX ?_);(first|(with_reducible first|refine z3 ?_|refine z4 ?_|refine z7 ?_|refine z8 ?_)|((with_reducible refine z29 ?_);intro A B hA hB;(conv=>whnf))))|(with_reducible first|refine z1 ?_|refine z2 ?_|refine z10 ?_|refine z11 ?_|refine z19 ?_)|((with_reducible refine gR ?_);((refine z31 rfl ?_);intro K hK;(conv=>whnf)))))
    exact ⟨⟨_, rfl, ⟨fun h => by omega, fun h => (hno h).elim⟩⟩, rfl⟩
theorem contains27_c (q : Po.T → Bool) (v : Value) (l : List Po.T) (hv : Po.Row F v l) (hn : l.length ≤ 4611686018427387904) (g : FuncId) (first captured : List AV)
    (hg : ∀ x ∈ l, ∀ pA A, Po.At F x pA A → NCall Tryz.prog g (first ++ [.agg (Po.cs x pA A)] ++ captured) [hpB F] fun r m => r = .bool (q x) ∧ m = [hpB F]) :
    NCall Tryz.prog 71 [.hs v l.length, .fn g first captured] [hpB F] fun r m => r = .bool (l.any q) ∧ m = [hpB F] := by
  have hi := index27_c F q v l hv hn g first captured hg
  refine ncall_of Tryz.func71 rfl (by decide) ?_
  (repeat' (first|(with_reducible first|(refine hK _ _ ?_;clear hK K)|(refine hK _ ?_;clear hK K))|((with_reducible refine gO ?_);(first|((with_reducible refine z25 ?_);intro K hK;(conv=>whnf))|(with_reducible refine z0 ?_)))|((((with_reducible refine gC ?_;refine NCall.isF 95 ?_);refine NCall.subw [0] _ _ (hi) rfl (by decide) rfl ?_; rintro _ _ ⟨⟨j, rfl, hj⟩, rfl⟩; refine ⟨Nat.le_of_ble_eq_true rfl, _, rfl, ?_⟩))<;>(conv=>whnf))|(with_reducible refine gX ?_;first|refine z3 ?_|refine z4 ?_|refine z8 ?_)|(with_reducible first|refine z1 ?_|refine z2 ?_)|((with_reducible refine gR ?_);((refine z31 rfl ?_);intro K hK;(conv=>whnf)))|((with_reducible refine gF ?_);((refine z33 rfl ?_);intro K hK;(conv=>whnf)))))
  all_goals
    refine ⟨?_, rfl⟩
    congr 1
    by_cases h : 0 ≤ j
    · rw [hj.1 h]; exact decide_eq_true h
    · rw [show l.any q = false by cases e : l.any q with | false => rfl | true => exact (h (hj.2 e)).elim]; exact decide_eq_false h
theorem all27_c : ∀ (n : Nat) (x : Po.T) (pu u : Value), Po.tot x ≤ n → Po.tot x ≤ 4611686018427387904 → Po.At F x pu u →
    NCall Tryz.prog 39 [.agg (Po.cs x pu u)] [hpB F] fun r m => r = .bool (Po.fits x) ∧ m = [hpB F]
  | 0, x, pu, u, hn, _, _ => absurd (Po.tot_pos x) (by omega)
  | n + 1, ⟨k, p, f, v, l⟩, pu, u, hn, hs, hx => by
    refine NCall.fits (K := fun r m => r = .bool (Po.fits (.mk k p f v l)) ∧ MemFits m [hpB F]) ?_ fun r m' h => ⟨r, _, rfl, h.2, h.1, rfl⟩
    have hu : Po.Row F u l := hx.l
    have hok := hu.ok
    have hpok : SlOk pu p.l.length := hx.p.ok
    have hll := Po.length_le l
    have e2 := Po.tot_mk k p f v l
    have ih : ∀ x ∈ l, ∀ pA A, Po.At F x pA A → NCall Tryz.prog 72 ([] ++ [.agg (Po.cs x pA A)] ++ []) [hpB F] fun r m => r = .bool (!Po.fits x) ∧ m = [hpB F] := fun x hx pA A hA => by
      have c := all27_c n x pA A (by have := Po.tot_lt (k := k) (q := p) (f := f) (v := v) hx; omega) (by have := Po.tot_lt (k := k) (q := p) (f := f) (v := v) hx; omega) hA
      refine NCall.fits (K := fun r m => r = .bool (!Po.fits x) ∧ MemFits m [hpB F]) ?_ fun r m' h => ⟨r, _, rfl, h.2, h.1, rfl⟩
      have hAo := hA.l.ok
      have hAp := hA.p.ok
      generalize Po.fits x = b at *
      simp only [Po.cs] at *
      refine ncall_of Tryz.func72 rfl (by decide) ?_
      (repeat' (first|(with_reducible first|(refine hK _ _ ?_;clear hK K)|(refine hK _ ?_;clear hK K))|((with_reducible refine gO ?_);(first|((with_reducible refine z25 ?_);intro K hK;(conv=>whnf))|(with_reducible refine z0 ?_)))|((first|((with_reducible refine gH ?_;refine NH.mk ?s ?_);case s=>(and_intros<;>with_reducible rfl))|((with_reducible refine gC ?_;refine NCall.isF 39 ?_);refine NCall.subE [0] (c) rfl (by decide) rfl rfl ?_))<;>(conv=>whnf))|(with_reducible refine gX ?_;first|refine z3 ?_|refine z4 ?_|refine z8 ?_)|(with_reducible first|refine z1 ?_|refine z2 ?_)|((with_reducible refine gR ?_);((refine z31 rfl ?_);intro K hK;(conv=>whnf)))|((with_reducible refine gF ?_);((refine z33 rfl ?_);intro K hK;(conv=>whnf)))|((intro _;skip)<;>(conv=>whnf))))
      all_goals exact ⟨rfl, MemFits.pre 1 rfl⟩
    have cc := contains27_c F (fun x => !Po.fits x) u l hu (by omega) _ [] [] ih
    rw [Po.any_fits] at cc
    have cs := shape27_c F k p f v l pu u (by omega) (by omega) hx
    rw [Po.fits]
    generalize Po.shape k p f v l.length = sb at *
    generalize Po.fitsL l = fb at *
    rw [po_cs] at *
    clear ih hx
    refine ncall_of Tryz.func39 rfl (by decide) ?_
    cases sb
    · (repeat' (first|(with_reducible first|(refine hK _ _ ?_;clear hK K)|(refine hK _ ?_;clear hK K))|((with_reducible refine gO ?_);(first|((with_reducible first|refine z25 ?_|refine z26 ?_);intro K hK;(conv=>whnf))|(with_reducible refine z0 ?_)))|((first|((with_reducible refine gI ?_);(((with_reducible refine NIf.no ?s ?_);case s=>rfl)))|((with_reducible refine gH ?_;refine NH.mk ?s ?_);case s=>(and_intros<;>with_reducible rfl))|((with_reducible refine gC ?_;refine NCall.isF 70 ?_);refine NCall.subE [0] (cs) rfl (by decide) rfl rfl ?_))<;>(conv=>whnf))|(with_reducible refine gX ?_;first|refine z3 ?_|refine z4 ?_|refine z8 ?_)|(with_reducible first|refine z1 ?_|refine z2 ?_)|((with_reducible refine gR ?_);((refine z31 rfl ?_);intro K hK;(conv=>whnf)))|((with_reducible refine gF ?_);((refine z33 rfl ?_);intro K hK;(conv=>whnf)))|((intro _;skip)<;>(conv=>whnf))))
      all_goals exact ⟨rfl, MemFits.pre 1 rfl⟩
    · (repeat' (first|(with_reducible first|(refine hK _ _ ?_;clear hK K)|(refine hK _ ?_;clear hK K))|((with_reducible refine gO ?_);(first|((with_reducible first|refine z25 ?_|refine z26 ?_);intro K hK;(conv=>whnf))|(with_reducible refine z0 ?_)))|((first|((with_reducible refine gI ?_);(((with_reducible refine NIf.yes ?s ?_);case s=>rfl)))|(with_reducible refine gN ?_;refine NN.a5 ?_)|((with_reducible refine gH ?_;refine NH.mk ?s ?_);case s=>(and_intros<;>with_reducible rfl))|((with_reducible refine gC ?_);(first|((with_reducible refine NCall.isF 70 ?_);refine NCall.subE [0] (cs) rfl (by decide) rfl rfl ?_)|((with_reducible refine NCall.isF 71 ?_);refine NCall.subE [0] (cc) rfl (by decide) rfl rfl ?_))))<;>(conv=>whnf))|(with_reducible refine gX ?_;first|refine z3 ?_|refine z4 ?_|refine z8 ?_)|(with_reducible first|refine z1 ?_|refine z2 ?_)|((with_reducible refine gR ?_);((refine z31 rfl ?_);intro K hK;(conv=>whnf)))|((with_reducible refine gF ?_);((refine z33 rfl ?_);intro K hK;(conv=>whnf)))|((intro _;skip)<;>(conv=>whnf))))
      all_goals exact ⟨by cases fb <;> rfl, MemFits.pre 1 rfl⟩
theorem right27_c (x : Po.T) (pu u : Value) (hs : Po.tot x ≤ 4611686018427387904) (hx : Po.At F x pu u) : NCall Tryz.prog 15 [.agg (Po.cs x pu u)] [hpB F] fun r m => r = .bool (Po.right x) ∧ m = [hpB F] := by
  refine NCall.fits (K := fun r m => r = .bool (Po.right x) ∧ MemFits m [hpB F]) ?_ fun r m' h => ⟨r, _, rfl, h.2, h.1, rfl⟩
  have c1 := size27_c F _ x pu u (Nat.le_refl _) hs hx
  have c2 := deep27_c F _ x pu u (Nat.le_refl _) hs hx
  have c3 := wide27_c F _ x pu u (Nat.le_refl _) hs hx
  have c4 := all27_c F _ x pu u (Nat.le_refl _) hs hx
  have hd := Po.deep_tot x
  have hz := Po.size_tot x
  have hwd := Po.wide_le x
  have hok := hx.l.ok
  have hpok := hx.p.ok
  unfold Po.right
  generalize Po.fits x = fb at *
  generalize Po.size x = sz at *
  generalize Po.deep x = dp at *
  generalize Po.wide x = wd at *
  simp only [Po.cs] at *
  clear hx
  refine ncall_of Tryz.func15 rfl (by decide) ?_
  by_cases h1 : dp ≤ 8
  · by_cases h2 : sz ≤ 64
    · by_cases h3 : wd ≤ 64
      · (repeat' (first|(with_reducible first|(refine hK _ _ ?_;clear hK K)|(refine hK _ ?_;clear hK K))|((with_reducible refine gO ?_);(first|((with_reducible first|refine z25 ?_|refine z26 ?_);intro K hK;(conv=>whnf))|(with_reducible refine z0 ?_)))|((first|((with_reducible refine gI ?_);(((with_reducible refine NIf.decY ?s ?_);case s=>omega)))|((with_reducible refine gH ?_;refine NH.mk ?s ?_);case s=>(and_intros<;>with_reducible rfl))|((with_reducible refine gC ?_);(first|((with_reducible refine NCall.isF 16 ?_);refine NCall.subE [0] (c1) rfl (by decide) rfl rfl ?_)|((with_reducible refine NCall.isF 18 ?_);refine NCall.subE [0] (c2) rfl (by decide) rfl rfl ?_)|((with_reducible refine NCall.isF 20 ?_);refine NCall.subE [0] (c3) rfl (by decide) rfl rfl ?_)|((with_reducible refine NCall.isF 39 ?_);refine NCall.subE [0] (c4) rfl (by decide) rfl rfl ?_))))<;>(conv=>whnf))|(with_reducible refine gX ?_;first|refine z3 ?_|refine z4 ?_|refine z8 ?_)|(with_reducible first|refine z1 ?_|refine z2 ?_)|((with_reducible refine gR ?_);((refine z31 rfl ?_);intro K hK;(conv=>whnf)))|((with_reducible refine gF ?_);((refine z33 rfl ?_);intro K hK;(conv=>whnf)))|((intro _;skip)<;>(conv=>whnf))))
        all_goals first
          | (exfalso; omega)
          | exact ⟨by simp [h1, h2, h3], MemFits.pre 1 rfl⟩
      · (repeat' (first|(with_reducible first|(refine hK _ _ ?_;clear hK K)|(refine hK _ ?_;clear hK K))|((with_reducible refine gO ?_);(first|((with_reducible first|refine z25 ?_|refine z26 ?_);intro K hK;(conv=>whnf))|(with_reducible refine z0 ?_)))|((first|((with_reducible refine gI ?_);(first|((with_reducible refine NIf.decY ?s ?_);case s=>omega)|((with_reducible refine NIf.decN ?s ?_);case s=>omega)))|((with_reducible refine gH ?_;refine NH.mk ?s ?_);case s=>(and_intros<;>with_reducible rfl))|((with_reducible refine gC ?_);(first|((with_reducible refine NCall.isF 16 ?_);refine NCall.subE [0] (c1) rfl (by decide) rfl rfl ?_)|((with_reducible refine NCall.isF 18 ?_);refine NCall.subE [0] (c2) rfl (by decide) rfl rfl ?_)|((with_reducible refine NCall.isF 20 ?_);refine NCall.subE [0] (c3) rfl (by decide) rfl rfl ?_))))<;>(conv=>whnf))|(with_reducible refine gX ?_;first|refine z3 ?_|refine z4 ?_|refine z8 ?_)|(with_reducible first|refine z1 ?_|refine z2 ?_)|((with_reducible refine gR ?_);((refine z31 rfl ?_);intro K hK;(conv=>whnf)))|((with_reducible refine gF ?_);((refine z33 rfl ?_);intro K hK;(conv=>whnf)))|((intro _;skip)<;>(conv=>whnf))))
        all_goals first
          | (exfalso; omega)
          | exact ⟨by simp [h3], MemFits.pre 1 rfl⟩
    · (repeat' (first|(with_reducible first|(refine hK _ _ ?_;clear hK K)|(refine hK _ ?_;clear hK K))|((with_reducible refine gO ?_);(first|((with_reducible first|refine z25 ?_|refine z26 ?_);intro K hK;(conv=>whnf))|(with_reducible refine z0 ?_)))|((first|((with_reducible refine gI ?_);(first|((with_reducible refine NIf.decY ?s ?_);case s=>omega)|((with_reducible refine NIf.decN ?s ?_);case s=>omega)|((with_reducible refine NIf.no ?s ?_);case s=>rfl)))|((with_reducible refine gH ?_;refine NH.mk ?s ?_);case s=>(and_intros<;>with_reducible rfl))|((with_reducible refine gC ?_);(first|((with_reducible refine NCall.isF 16 ?_);refine NCall.subE [0] (c1) rfl (by decide) rfl rfl ?_)|((with_reducible refine NCall.isF 18 ?_);refine NCall.subE [0] (c2) rfl (by decide) rfl rfl ?_))))<;>(conv=>whnf))|(with_reducible refine gX ?_;first|refine z3 ?_|refine z4 ?_|refine z8 ?_)|(with_reducible first|refine z1 ?_|refine z2 ?_)|((with_reducible refine gR ?_);((refine z31 rfl ?_);intro K hK;(conv=>whnf)))|((with_reducible refine gF ?_);((refine z33 rfl ?_);intro K hK;(conv=>whnf)))|((intro _;skip)<;>(conv=>whnf))))
      all_goals first
        | (exfalso; omega)
        | exact ⟨by simp [h2], MemFits.pre 1 rfl⟩
  · (repeat' (first|(with_reducible first|(refine hK _ _ ?_;clear hK K)|(refine hK _ ?_;clear hK K))|((with_reducible refine gO ?_);(first|((with_reducible first|refine z25 ?_|refine z26 ?_);intro K hK;(conv=>whnf))|(with_reducible refine z0 ?_)))|((first|((with_reducible refine gI ?_);(first|((with_reducible refine NIf.decN ?s ?_);case s=>omega)|((with_reducible refine NIf.no ?s ?_);case s=>rfl)))|((with_reducible refine gH ?_;refine NH.mk ?s ?_);case s=>(and_intros<;>with_reducible rfl))|((with_reducible refine gC ?_;refine NCall.isF 18 ?_);refine NCall.subE [0] (c2) rfl (by decide) rfl rfl ?_))<;>(conv=>whnf))|(with_reducible refine gX ?_;first|refine z3 ?_|refine z4 ?_|refine z8 ?_)|(with_reducible first|refine z1 ?_|refine z2 ?_)|((with_reducible refine gR ?_);((refine z31 rfl ?_);intro K hK;(conv=>whnf)))|((with_reducible refine gF ?_);((refine z33 rfl ?_);intro K hK;(conv=>whnf)))|((intro _;skip)<;>(conv=>whnf))))
    all_goals first
      | (exfalso; omega)
      | exact ⟨by simp [h1], MemFits.pre 1 rfl⟩
end
end Go.Proofs.YtngodakgbldlpaaGreatDoor
namespace Go.Proofs.YtngodakgbldlpaaGreatDoor
open Go.Sx
set_option maxRecDepth 20000
set_option linter.unusedSimpArgs false
set_option linter.unusedVariables false
set_option maxHeartbeats 4000000
set_option linter.unusedVariables false
namespace Po
def exL : List T := [.mk 2 noneP 1 3 [], .mk 2 noneP 4 1 []]
def exX : T := .mk 3 noneP 0 0 exL
theorem ex_runs : runs 0 exX ⟨5, 7, 2, 0, 0⟩ = [⟨1, 7, 3, 0, 0⟩] := by decide +kernel
theorem ex_fits : fits exX = true := by decide +kernel
theorem ex_right : right exX = true := by decide +kernel
theorem ex_wide : wide exX = 1 := by decide +kernel
theorem ex_tot : tot exX = 6 := by decide +kernel
theorem ex_text : text exX = [100, 115, 116, 32, 58, 61, 32, 51, 59, 32, 112, 111, 114, 116, 32, 58, 61, 32, 49] := by decide +kernel
end Po
theorem awake27_run (F : Heap) (b : Nat) :
    NCall Tryz.prog 13 [.agg [.int .i64 3, .int .i64 0, .int .i64 0, .int .i64 0, .raw (.slice none 0 0), .int .i64 0, .int .i64 0, .sl 1 (.slice (some ⟨b, 0, none⟩) 2 2) 2], .int .i64 0, .int .i64 5, .agg [.int .i64 7, .int .i64 2, .int .i64 0, .int .i64 0]]
      [hpB F, ⟨⟨b, 0, none⟩, [.int .i64 2, .int .i64 0, .int .i64 0, .int .i64 0, .raw (.slice none 0 0), .int .i64 1, .int .i64 3, .raw (.slice none 0 0), .int .i64 2, .int .i64 0, .int .i64 0, .int .i64 0, .raw (.slice none 0 0), .int .i64 4, .int .i64 1, .raw (.slice none 0 0)], .row (.slice (some ⟨b, 0, none⟩) 2 2) 38 8 2⟩]
      fun r m => ∃ G v, F.le G ∧ Po.At G Po.exX (.slice none 0 0) (.slice (some ⟨b, 0, none⟩) 2 2) ∧ SlOk v 1 ∧ G.c ((addrOf v).add 0) (.int .i64 1) ∧ G.c ((addrOf v).add 1) (.int .i64 7) ∧ G.c ((addrOf v).add 2) (.int .i64 3) ∧ G.c ((addrOf v).add 3) (.int .i64 0) ∧ G.c ((addrOf v).add 4) (.int .i64 0) ∧ r = .hs v 1 ∧ m = [hpB G, hpB noHeap] := by
  have hok : SlOk (.slice (some ⟨b, 0, none⟩) 2 2) 2 := ⟨_, _, rfl, Nat.le_refl _, fun h => by cases h⟩
  generalize hw : Value.slice (some ⟨b, 0, none⟩) 2 2 = w at *
  have e8 : denL ([.int .i64 2, .int .i64 0, .int .i64 0, .int .i64 0, .raw (.slice none 0 0), .int .i64 1, .int .i64 3, .raw (.slice none 0 0), .int .i64 2, .int .i64 0, .int .i64 0, .int .i64 0, .raw (.slice none 0 0), .int .i64 4, .int .i64 1, .raw (.slice none 0 0)] : List AV) = [(⟨.mk 2 Po.noneP 1 3 [], .slice none 0 0, .slice none 0 0⟩ : Po.L), ⟨.mk 2 Po.noneP 4 1 [], .slice none 0 0, .slice none 0 0⟩].flatMap Po.psV := rfl
  have r8 := rowF_new (F := F) (sz := 8) (enc := Po.psV) hok e8 (fun x _ => rfl)
  have p8 := Po.row_of r8 fun p hp => by
    rcases List.mem_cons.1 hp with rfl | hp
    · exact ⟨RowF.nil, RowF.nil⟩
    · rw [List.mem_singleton.1 hp]; exact ⟨RowF.nil, RowF.nil⟩
  have hat : Po.At (addF F (addrOf w) (denL ([.int .i64 2, .int .i64 0, .int .i64 0, .int .i64 0, .raw (.slice none 0 0), .int .i64 1, .int .i64 3, .raw (.slice none 0 0), .int .i64 2, .int .i64 0, .int .i64 0, .int .i64 0, .raw (.slice none 0 0), .int .i64 4, .int .i64 1, .raw (.slice none 0 0)] : List AV))) Po.exX (.slice none 0 0) w := ⟨RowF.nil, p8⟩
  have c := Run27_c _ Po.exX (.slice none 0 0) w 0 ⟨5, 7, 2, 0, 0⟩ (by rw [Po.ex_tot]; decide) Po.ex_fits (by rw [Po.ex_runs]; decide) hat
  rw [Po.ex_runs] at c
  refine (NCall.pre (args := [.agg [.int .i64 3, .int .i64 0, .int .i64 0, .int .i64 0, .raw (.slice none 0 0), .int .i64 0, .int .i64 0, .sl 1 w 2], .int .i64 0, .int .i64 5, .agg [.int .i64 7, .int .i64 2, .int .i64 0, .int .i64 0]]) c rfl (MemFits.freeze (m := []))).fits fun r m' hr => ?_
  obtain ⟨G, u, h1, h2, rfl, rfl⟩ := hr
  obtain ⟨g0, g1, g2, g3, g4⟩ := RowF.get5 (f0 := fun s : Po.S => .int .i64 s.port) (f1 := fun s => .int .i64 s.p0) (f2 := fun s => .int .i64 s.p1) (f3 := fun s => .int .i64 s.p2) (f4 := fun s => .int .i64 s.p3) h2 (k := 0) (by decide)
  exact ⟨_, _, rfl, (MemFits.noHeap _).trans (MemFits.pick [1, 0] (by decide) rfl), G, u, addF.old.trans h1, Po.At.mono h1 hat, h2.ok, g0, g1, g2, g3, g4, rfl, rfl⟩
theorem awake27_c (F : Heap) (hT : TabF F) : NCall Tryz.prog 8 [] [hpB F] fun r m => r = .bool true ∧ m = [hpB F] := by
  refine NCall.fits (K := fun r m => r = .bool true ∧ ∃ F', F.le F' ∧ MemFits m [hpB F']) ?_ fun r m' ⟨h1, F', h2, h3⟩ => ⟨r, _, rfl, h3.trans (MemFits.less h2 []), h1, rfl⟩
  have ct : ∀ G w, TabF G → Po.At G Po.exX (.slice none 0 0) w → NCall Tryz.prog 28 [.agg [.int .i64 3, .int .i64 0, .int .i64 0, .int .i64 0, .hs (.slice none 0 0) 0, .int .i64 0, .int .i64 0, .hs w 2]] [hpB G] fun r m => r = .str [100, 115, 116, 32, 58, 61, 32, 51, 59, 32, 112, 111, 114, 116, 32, 58, 61, 32, 49] ∧ m = [hpB G] := fun G w hT h => by
    have := text27_c G hT _ Po.exX _ w (Nat.le_refl _) (by rw [Po.ex_tot]; decide) Po.ex_fits h
    rw [Po.ex_text] at this
    exact this
  have cr : ∀ G w, Po.At G Po.exX (.slice none 0 0) w → NCall Tryz.prog 15 [.agg [.int .i64 3, .int .i64 0, .int .i64 0, .int .i64 0, .hs (.slice none 0 0) 0, .int .i64 0, .int .i64 0, .hs w 2]] [hpB G] fun r m => r = .bool true ∧ m = [hpB G] := fun G w h => by
    have := right27_c G Po.exX _ w (by rw [Po.ex_tot]; decide) h
    rw [Po.ex_right] at this
    exact this
  have cw : ∀ G w, Po.At G Po.exX (.slice none 0 0) w → NCall Tryz.prog 20 [.agg [.int .i64 3, .int .i64 0, .int .i64 0, .int .i64 0, .hs (.slice none 0 0) 0, .int .i64 0, .int .i64 0, .hs w 2]] [hpB G] fun r m => r = .int .i64 1 ∧ m = [hpB G] := fun G w h => by
    have := wide27_c G _ Po.exX _ w (Nat.le_refl _) (by rw [Po.ex_tot]; decide) h
    rw [Po.ex_wide] at this
    exact this
  refine ncall_of Tryz.func8 rfl (by decide) ?_
  (repeat' (first|(with_reducible first|(refine hK _ _ ?_;clear hK K)|(refine hK _ ?_;clear hK K))|((with_reducible refine gO ?_);(first|((with_reducible first|refine z25 ?_|refine z26 ?_);intro K hK;(conv=>whnf))|(with_reducible refine z0 ?_)))|((first|((with_reducible refine gI ?_);((((with_reducible refine NIf.yes ?s ?_);case s=>(simp ;done)))))|(with_reducible refine gN ?_;first|refine NN.lit ?_|refine NN.a6 ?_)|((with_reducible refine gH ?_;refine NH.mk ?s ?_);case s=>(and_intros<;>first|with_reducible rfl|((with_reducible refine gOnes ?_);rfl)|((with_reducible refine gLen ?_);rfl)|omega))|((with_reducible refine gC ?_);(first|((with_reducible refine NCall.isF 13 ?_);refine NCall.subw [0, 1] _ _ (awake27_run F _) rfl (by decide) rfl ?_; rintro _ _ ⟨G, u, hle, hat, hok, g0, g1, g2, g3, g4, rfl, rfl⟩; refine ⟨Nat.le_of_ble_eq_true rfl, _, rfl, ?_⟩)|((with_reducible refine NCall.isF 28 ?_);refine NCall.subE [0] (ct G _ (hT.mono hle) hat) rfl (by decide) rfl rfl ?_)|((with_reducible refine NCall.isF 15 ?_);refine NCall.subE [0] (cr G _ hat) rfl (by decide) rfl rfl ?_)|((with_reducible refine NCall.isF 20 ?_);refine NCall.subE [0] (cw G _ hat) rfl (by decide) rfl rfl ?_)))|(with_reducible refine NLd.of (by with_reducible assumption) ?_))<;>(conv=>whnf))|(with_reducible refine gX ?_;first|refine z3 ?_|refine z4 ?_|refine z8 ?_)|(with_reducible first|refine z1 ?_|refine z2 ?_)|((with_reducible refine gR ?_);((refine z31 rfl ?_);intro K hK;(conv=>whnf)))|((with_reducible refine gF ?_);((refine z33 rfl ?_);intro K hK;(conv=>whnf)))|((refine NFlat_iff.2 ⟨⟨?s1,?s2⟩,?_⟩;(case s1=>decide +kernel);(case s2=>decide +kernel))<;>(conv=>whnf))|((intro _;skip)<;>(conv=>whnf))))
  all_goals exact ⟨rfl, G, hle, MemFits.pre 1 rfl⟩
end Go.Proofs.YtngodakgbldlpaaGreatDoor
