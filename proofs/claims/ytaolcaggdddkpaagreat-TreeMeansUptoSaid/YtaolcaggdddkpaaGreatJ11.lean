/-
  Conditions: rows of them that grow; the law's own turning of one into the other; Conditions: the same; which may be.
-/
import Derived.Test.YtaolcaggdddkpaaGreatJ2
import Derived.Test.YtaolcaggdddkpaaGreatJ8
namespace Go.Proofs.YtaolcaggdddkpaaGreat
open Go.Sx
set_option maxRecDepth 20000
set_option linter.unusedSimpArgs false
set_option linter.unusedVariables false
set_option maxHeartbeats 4000000
set_option linter.unusedVariables false
namespace Pd
/-- Conditions, each with the slice in which those within it lie: their cells. -/
def psC (ps : List (T × Value)) : List AV := ps.flatMap fun p => cs p.1 p.2
def psV (p : T × Value) : List Value := denL (cs p.1 p.2)
theorem psC_den : ∀ ps, denL (psC ps) = ps.flatMap psV
  | [] => rfl
  | p :: ps => by
    have := psC_den ps
    unfold psC at *
    rw [List.flatMap_cons, List.flatMap_cons, denL_append, this]
    rfl
theorem psC_len (ps : List (T × Value)) : (psC ps).length = ps.length * 4 := by
  induction ps with
  | nil => rfl
  | cons p ps ih =>
    unfold psC at *
    rw [List.flatMap_cons, List.length_append, ih, List.length_cons]
    show 4 + _ = _
    omega
theorem psC_next (ps : List (T × Value)) (p : T × Value) : psC (ps ++ [p]) = psC ps ++ cs p.1 p.2 := by
  unfold psC
  rw [List.flatMap_append]
  simp
/-- What is made stands for a condition. -/
def Got (F : Heap) (t : TypeId) (X : T) (v : AV) (m : List Blk) : Prop :=
  ∃ G u, ∃ ps : List (T × Value), F.le G ∧ ps.map (·.1) = X.l ∧ (∀ p ∈ ps, Row G p.2 p.1.l) ∧ v.den = (AV.agg (cs X u)).den ∧ MemFits m [hpB G, ⟨addrOf u, psC ps, .row u t 4 ps.length⟩]
theorem row_of {G : Heap} {u : Value} {ps : List (T × Value)} (h : RowF G 4 (fun p vs => vs = psV p) u ps) (hall : ∀ p ∈ ps, Row G p.2 p.1.l) : Row G u (ps.map (·.1)) := by
  refine ⟨by rw [List.length_map]; exact h.ok, fun k x hx => ?_⟩
  rw [List.getElem?_map] at hx
  cases hp : ps[k]? with
  | none => rw [hp] at hx; cases hx
  | some p =>
    rw [hp] at hx
    simp only [Option.map_some, Option.some.injEq] at hx
    subst hx
    obtain ⟨vs, h1, h2, h3⟩ := h.at_ k p hp
    have hr := hall p (List.mem_of_getElem? hp)
    refine ⟨vs, ?_, h2, h3⟩
    obtain ⟨A, cap, hv, hle, hz⟩ := hr.ok
    rw [h1]
    obtain ⟨x, w⟩ := p
    dsimp only at hv hr ⊢
    subst hv
    exact R.of hr
theorem got_know {f : FuncId} {args : List AV} {F : Heap} {t : TypeId} {m : List Blk} {X : T} (h : NCall Tryz.prog f args m fun v m' => Got F t X v m') :
    NCall Tryz.prog f args m fun v m' => ∃ F' u, F.le F' ∧ Row F' u X.l ∧ v = .agg (cs X u) ∧ m' = [hpB F'] := by
  refine Go.Sx.NCall.know h fun r m' ⟨G, u, ps, hle, hmap, hall, hr, hm⟩ ⟨w, hw⟩ => ?_
  have hok := ((hm w hw).1.row (List.mem_cons_of_mem _ (List.mem_cons_self ..))).1
  have hrow := rowF_new (F := G) (sz := 4) (enc := psV) hok (psC_den ps) (fun x _ => rfl)
  refine ⟨_, _, hr.symm, hm.trans (MemFits.freeze (m := [])), _, u, hle.trans addF.old, ?_, rfl, rfl⟩
  rw [← hmap]
  exact row_of hrow fun p hp => Row.mono addF.old (hall p hp)
/-- What a call that lays conditions gives. -/
abbrev Lays (F : Heap) (X : T) (r : AV) (m : List Blk) : Prop := ∃ F' u, F.le F' ∧ Row F' u X.l ∧ r = .agg (cs X u) ∧ m = [hpB F']
end Pd
theorem mine26_c : ∀ (n : Nat) (F : Heap) (p : Pd.T) (u : Value), Pd.size p ≤ n → Pd.size p ≤ 2932031007402 → Pd.Row F u p.l →
    NCall Tryz.prog 29 [.agg (Pd.cs p u)] [hpB F] fun r m => Pd.Lays F p r m
  | 0, F, p, u, hn, _, _ => absurd (Pd.size_pos p) (by omega)
  | n + 1, F, ⟨k, f, v, l⟩, u, hn, hs, hu => by
    refine Pd.got_know (t := 38) ?_
    have hu : Pd.Row F u l := hu
    have hok := hu.ok
    have e2 : Pd.size (.mk k f v l) = 1 + Pd.sizeL l := by rw [Pd.size]
    have hll := Pd.length_le l
    have ih : ∀ G, ∀ x ∈ l, ∀ w, Pd.Row G w x.l → NCall Tryz.prog 29 [.agg (Pd.cs x w)] [hpB G] fun r m => Pd.Lays G x r m := fun G x hx w hw => mine26_c n G x w (by have := Pd.size_lt (k := k) (f := f) (v := v) hx; omega) (by have := Pd.size_lt (k := k) (f := f) (v := v) hx; omega) hw
    refine ncall_of Tryz.func29 rfl (by decide) ?_
    rw [pd_cs]
    (repeat' (first|(with_reducible first|(refine hK _ _ ?_;clear hK K)|(refine hK _ ?_;clear hK K))|((with_reducible refine gO ?_);(first|((with_reducible refine z25 ?_);intro K hK;(conv=>whnf))|(with_reducible refine z0 ?_)))|((first|((with_reducible refine gN ?_);(with_reducible refine NN.a5 ?_))|((with_reducible refine gH ?_);((with_reducible refine NH.mk ?s ?_);case s=>(and_intros<;>first|with_reducible rfl|((with_reducible refine gOnes ?_);rfl)|((with_reducible refine gLen ?_);rfl)))))<;>(conv=>whnf))|((with_reducible refine gX ?_);((with_reducible first|refine z3 ?_|refine z4 ?_|refine z5 ?_)))|(with_reducible first|refine z1 ?_|refine z2 ?_)|((with_reducible refine gF ?_);((refine z33 rfl ?_);intro K hK;(conv=>whnf)))|((intro _;skip)<;>(conv=>whnf))))
    refine st_auto (α := Heap × Value × List (Pd.T × Value)) (fun (G, w, ps) => F.le G ∧ ps.map (·.1) = l.take ps.length ∧ ps.length ≤ l.length ∧ ∀ p ∈ ps, Pd.Row G p.2 p.1.l) (fun (G, w, ps) => [.keep, .keep, .keep, .keep, .set (.int .i64 ps.length), .keep, .keep, .keep, .keep, .keep, .keep, .keep, .drop, .drop, .drop, .drop, .drop, .drop, .drop, .drop, .drop, .drop, .drop, .drop, .drop, .drop, .drop, .drop, .drop, .drop, .keep])
      (fun (G, w, ps) => [.set (hpB G), .keep, .keep, .cells [.int .i64 k, .int .i64 f, .int .i64 v, .sl 4 w ps.length], .set ⟨addrOf w, Pd.psC ps, .row w 38 4 ps.length⟩]) (fun (G, w, ps) => l.length - ps.length) (F, .slice none 0 0, []) ⟨F.le_refl, rfl, Nat.zero_le _, fun p hp => by simp at hp⟩ ?_ ((MemFits.nilRow _ 38 4).trans (MemFits.congr rfl)) ?_
    · repeat (first|exact FitsSl.nil|refine FitsSl.any ?_|refine FitsSl.cons (Fit1.int (by first | rfl | omega)) ?_|refine FitsSl.cons (Fit1.same (by intro h; cases h) (by with_reducible rfl)) ?_)
    (intro ⟨G, w, ps⟩ ⟨hle, hmap, hlen, hall⟩; intro K hK; (conv=>whnf); refine hK _ _ ?_; clear hK K)
    dsimp only
    generalize hk : ps.length = i at *
    by_cases hlt : i < l.length
    · have hx : l[i]? = some l[i] := List.getElem?_eq_getElem hlt
      obtain ⟨A, cap, hA, c0, c1, c2, c3⟩ := (Pd.Row.mono hle hu).get hx
      have hmem := List.mem_of_getElem? hx
      have c := ih G _ hmem _ hA
      have hnx : l.take (i + 1) = l.take i ++ [l[i]] := by rw [List.take_add_one, hx]; rfl
      clear ih
      generalize l[i] = x at *
      have hpl := Pd.psC_len ps
      have hpn := Pd.psC_next ps
      generalize hpc : Pd.psC ps = pc at *
      obtain ⟨xk, xf, xv, xl⟩ := x
      simp only [Pd.Lays, Pd.cs, Pd.T.k, Pd.T.f, Pd.T.v, Pd.T.l] at c c0 c1 c2 c3 hA
      (repeat' (first|(with_reducible first|(refine hK _ _ ?_;clear hK K)|(refine hA ?_;clear hA hB A B)|(refine hK _ ?_;clear hK K))|((with_reducible refine gO ?_);(first|((with_reducible refine z25 ?_);intro K hK;(conv=>whnf))|(with_reducible refine z0 ?_)))|((first|((with_reducible refine gV ?_);(((with_reducible refine NV.i64 ?s ?_);case s=>omega)))|((with_reducible refine gI ?_);(((with_reducible refine NIf.decY ?s ?_);case s=>omega)))|((with_reducible refine gN ?_);(with_reducible first|refine NN.cast ?_|refine NN.a5 ?_|refine NN.keep ?_))|((with_reducible refine gH ?_);((with_reducible refine NH.mk ?s ?_);case s=>(and_intros<;>first|with_reducible rfl|((with_reducible refine gOnes ?_);rfl)|((with_reducible refine gLen ?_);rfl)|omega)))|((with_reducible refine gC ?_);((with_reducible refine NCall.isF 29 ?_);refine NCall.subw [0] _ _ (c) rfl (by decide) rfl ?_; rintro _ _ ⟨G', w', hle2, hrow, rfl, rfl⟩; refine ⟨Nat.le_of_ble_eq_true rfl, _, rfl, ?_⟩))|(with_reducible refine NLd.of (by with_reducible assumption) ?_))<;>(conv=>whnf))|((with_reducible refine gNO ?_);(first|(refine z36 rfl (by kernel_rfl) ?_; intro K hK; (conv=>whnf))|(refine z38 rfl (by kernel_rfl) ?_)|(refine z39 rfl rfl (by kernel_rfl) (by intro h; cases h) ?_)))|((with_reducible refine gNE ?_);(first|(refine z40 ?_ ?_; (intro K hK; (conv=>whnf)))|exact z42))|((with_reducible refine gX ?_);(first|(refine z35 (by kernel_rfl) _ rfl ?_)|(with_reducible first|refine z3 ?_|refine z4 ?_|refine z5 ?_|refine z6 ?_)|((with_reducible refine z29 ?_);intro A B hA hB;(conv=>whnf))))|(with_reducible first|refine z1 ?_|refine z2 ?_|refine z9 ?_)|((intro _;skip)<;>(conv=>whnf))))
      all_goals
        rename_i v9
        refine st_round (G', v9, ps ++ [(⟨xk, xf, xv, xl⟩, w')]) ⟨hle.trans hle2, by rw [List.map_append, hmap, List.length_append, hk]; exact hnx.symm, by rw [List.length_append, hk]; exact hlt, fun x hx => ?_⟩ (by rw [List.length_append, hk]; show l.length - (i + 1) < l.length - i; omega) ?_ (MemFits.pre 5 ?_)
        · rcases List.mem_append.1 hx with hx | hx
          · exact Pd.Row.mono hle2 (hall x hx)
          · rw [List.mem_singleton.1 hx]; exact hrow
        · simp only [List.length_append, hk]
          repeat (first|exact FitsSl.nil|refine FitsSl.any ?_|refine FitsSl.cons (Fit1.int (by first | rfl | omega)) ?_|refine FitsSl.cons (Fit1.same (by intro h; cases h) (by with_reducible rfl)) ?_)
        · simp only [autoM, List.take, List.length_append, hk, hpn]
          rw [show i + [((⟨xk, xf, xv, xl⟩ : Pd.T), w')].length = i + 1 from rfl]
          rfl
    · have hkl : i = l.length := by omega
      subst hkl
      (repeat' (first|(with_reducible first|(refine hK _ _ ?_;clear hK K)|(refine hB ?_;clear hA hB A B)|(refine hK _ ?_;clear hK K))|((with_reducible refine gO ?_);(first|((with_reducible refine z25 ?_);intro K hK;(conv=>whnf))|(with_reducible refine z0 ?_)))|((first|((with_reducible refine gI ?_);(((with_reducible refine NIf.decN ?s ?_);case s=>omega)))|((with_reducible refine gN ?_);(with_reducible refine NN.a5 ?_))|((with_reducible refine gH ?_);((with_reducible refine NH.mk ?s ?_);case s=>(and_intros<;>first|with_reducible rfl|((with_reducible refine gOnes ?_);rfl)|((with_reducible refine gLen ?_);rfl)|omega))))<;>(conv=>whnf))|((with_reducible refine gX ?_);(first|(with_reducible first|refine z3 ?_|refine z4 ?_|refine z7 ?_|refine z8 ?_)|((with_reducible refine z29 ?_);intro A B hA hB;(conv=>whnf))))|(with_reducible first|refine z1 ?_|refine z2 ?_|refine z10 ?_|refine z11 ?_|refine z19 ?_)|((with_reducible refine gR ?_);((refine z31 rfl ?_);intro K hK;(conv=>whnf)))))
      all_goals exact ⟨G, w, ps, hle, by rw [hmap, List.take_length]; rfl, hall, rfl, by rw [hk]; exact MemFits.pick [0, 4] (by decide) rfl⟩
end Go.Proofs.YtaolcaggdddkpaaGreat
namespace Go.Proofs.YtaolcaggdddkpaaGreat
open Go.Sx
set_option maxRecDepth 20000
set_option linter.unusedSimpArgs false
set_option linter.unusedVariables false
set_option maxHeartbeats 4000000
set_option linter.unusedVariables false
section
variable (F : Heap)
theorem equal26_c (v w : Value) (a b : List Pd.T) (hv : Pd.Row F v a) (hw : Pd.Row F w b) (ha : a.length ≤ 4611686018427387904) (hb : b.length ≤ 4611686018427387904) (g : FuncId)
    (hg : ∀ x ∈ a, ∀ y ∈ b, ∀ A B, Pd.Row F A x.l → Pd.Row F B y.l → NCall Tryz.prog g [.agg (Pd.cs x A), .agg (Pd.cs y B)] [hpB F] fun r m => r = .bool (Pd.same x y) ∧ m = [hpB F]) :
    NCall Tryz.prog 153 [.hs v a.length, .hs w b.length, .fn g [] []] [hpB F] fun r m => r = .bool (Pd.sameL a b) ∧ m = [hpB F] := by
  refine NCall.fits (K := fun r m => r = .bool (Pd.sameL a b) ∧ MemFits m [hpB F]) ?_ fun r m' h => ⟨r, _, rfl, h.2, h.1, rfl⟩
  have hok := hv.ok
  have hok2 := hw.ok
  have hs := Pd.sameL_iff a b
  refine ncall_of Tryz.func153 rfl (by decide) ?_
  by_cases hl : a.length = b.length
  · (repeat' (first|(with_reducible first|(refine hK _ _ ?_;clear hK K)|(refine hB ?_;clear hA hB A B)|(refine hK _ ?_;clear hK K))|((with_reducible refine gO ?_);(first|((with_reducible refine z25 ?_);intro K hK;(conv=>whnf))|(with_reducible refine z0 ?_)))|((first|((with_reducible refine gI ?_);(first|with_reducible refine NIf.not_ ?_|((with_reducible refine NIf.decY ?s ?_);case s=>omega)))|((with_reducible refine gH ?_);((with_reducible refine NH.mk ?s ?_);case s=>(and_intros<;>omega))))<;>(conv=>whnf))|((with_reducible refine gX ?_);(first|(with_reducible first|refine z3 ?_|refine z4 ?_|refine z5 ?_|refine z6 ?_)|((with_reducible refine z29 ?_);intro A B hA hB;(conv=>whnf))))|(with_reducible first|refine z1 ?_|refine z2 ?_)|((with_reducible refine gF ?_);((refine z33 rfl ?_);intro K hK;(conv=>whnf)))))
    refine st_auto (α := Nat) (fun k => k ≤ a.length ∧ ∀ (j : Nat) (x y : Pd.T), j < k → a[j]? = some x → b[j]? = some y → Pd.same x y = true) (fun k => [.keep, .keep, .keep, .keep, .keep, .keep, .drop, .drop, .drop, .drop, .keep, .keep, .keep, .keep, .keep, .keep, .keep, .set (.int .i64 k), .drop, .drop, .drop, .drop, .drop, .drop, .drop, .drop, .drop, .drop, .drop, .drop, .drop, .drop]) (fun _ => []) (fun k => a.length - k) 0 ⟨Nat.zero_le _, fun j x y hj => absurd hj (Nat.not_lt_zero _)⟩ ?_ (MemFits.eq rfl) ?_
    · repeat (first|exact FitsSl.nil|refine FitsSl.any ?_|refine FitsSl.cons (Fit1.int (by first | rfl | omega)) ?_|refine FitsSl.cons (Fit1.bool rfl) ?_|refine FitsSl.cons (Fit1.same (by intro h; cases h) (by with_reducible rfl)) ?_)
    (intro k ⟨hk, hgone⟩; intro K hK; (conv=>whnf); refine hK _ _ ?_; clear hK K)
    by_cases hlt : k < a.length
    · have hx : a[k]? = some a[k] := List.getElem?_eq_getElem hlt
      have hy : b[k]? = some (b[k]'(by omega)) := List.getElem?_eq_getElem (by omega)
      obtain ⟨A, cap, hA, c0, c1, c2, c3⟩ := hv.get hx
      obtain ⟨B, cap', hB, d0, d1, d2, d3⟩ := hw.get hy
      have c := hg _ (List.mem_of_getElem? hx) _ (List.mem_of_getElem? hy) _ _ hA hB
      generalize a[k] = x at *
      generalize (b[k]'(by omega)) = y at *
      simp only [Pd.cs] at c
      by_cases hq : Pd.same x y = true
      · rw [hq] at c
        (repeat' (first|(with_reducible first|(refine hK _ _ ?_;clear hK K)|(refine hA ?_;clear hA hB A B)|(refine hB ?_;clear hA hB A B))|((with_reducible refine gO ?_);(first|((with_reducible refine z25 ?_);intro K hK;(conv=>whnf))|(with_reducible refine z0 ?_)))|((first|((with_reducible refine gV ?_);(((with_reducible refine NV.i64 ?s ?_);case s=>omega)))|((with_reducible refine gI ?_);(first|with_reducible refine NIf.not_ ?_|((with_reducible refine NIf.decY ?s ?_);case s=>omega)|((with_reducible refine NIf.yes ?s ?_);case s=>rfl)))|((with_reducible refine gN ?_);(with_reducible first|refine NN.cast ?_|refine NN.keep ?_))|((with_reducible refine gH ?_);((with_reducible refine NH.mk ?s ?_);case s=>(and_intros<;>first|with_reducible rfl|((with_reducible refine gOnes ?_);rfl)|((with_reducible refine gLen ?_);rfl)|omega)))|((with_reducible refine gC ?_);((with_reducible refine NCall.isF g ?_);refine NCall.subE [0] (c) rfl (by decide) rfl rfl ?_))|(with_reducible refine NLd.of (by with_reducible assumption) ?_))<;>(conv=>whnf))|((with_reducible refine gX ?_);(first|(with_reducible first|refine z3 ?_|refine z4 ?_|refine z5 ?_|refine z6 ?_)|((with_reducible refine z29 ?_);intro A B hA hB;(conv=>whnf))))|(with_reducible first|refine z1 ?_|refine z2 ?_|refine z9 ?_)|((intro _;skip)<;>(conv=>whnf))))
        refine st_round (k + 1) ⟨hlt, fun j x' y' hj h1 h2 => ?_⟩ (by omega) ?_ (MemFits.pre 1 rfl)
        · by_cases e : j = k
          · subst e
            rw [hx] at h1
            rw [hy] at h2
            injection h1 with h1
            injection h2 with h2
            rw [← h1, ← h2]; exact hq
          · exact hgone j x' y' (by omega) h1 h2
        · repeat (first|exact FitsSl.nil|refine FitsSl.any ?_|refine FitsSl.cons (Fit1.int (by first | rfl | omega)) ?_|refine FitsSl.cons (Fit1.bool rfl) ?_|refine FitsSl.cons (Fit1.same (by intro h; cases h) (by with_reducible rfl)) ?_)
      · have hqf : Pd.same x y = false := by simpa using hq
        rw [hqf] at c
        have hne : Pd.sameL a b = false := by
          cases h : Pd.sameL a b with
          | false => rfl
          | true => exact (hq ((hs.1 h).2 k x y hx hy)).elim
        rw [hne]
        (repeat' (first|(with_reducible first|(refine hK _ _ ?_;clear hK K)|(refine hA ?_;clear hA hB A B)|(refine hK _ ?_;clear hK K))|((with_reducible refine gO ?_);(first|((with_reducible refine z25 ?_);intro K hK;(conv=>whnf))|(with_reducible refine z0 ?_)))|((first|((with_reducible refine gI ?_);(first|with_reducible refine NIf.not_ ?_|((with_reducible refine NIf.decY ?s ?_);case s=>omega)|((with_reducible refine NIf.no ?s ?_);case s=>rfl)))|((with_reducible refine gN ?_);(with_reducible first|refine NN.cast ?_|refine NN.keep ?_))|((with_reducible refine gH ?_);((with_reducible refine NH.mk ?s ?_);case s=>(and_intros<;>first|with_reducible rfl|((with_reducible refine gOnes ?_);rfl)|((with_reducible refine gLen ?_);rfl)|omega)))|((with_reducible refine gC ?_);((with_reducible refine NCall.isF g ?_);refine NCall.subE [0] (c) rfl (by decide) rfl rfl ?_))|(with_reducible refine NLd.of (by with_reducible assumption) ?_))<;>(conv=>whnf))|((with_reducible refine gX ?_);(first|(with_reducible first|refine z3 ?_|refine z4 ?_|refine z5 ?_|refine z6 ?_|refine z8 ?_)|((with_reducible refine z29 ?_);intro A B hA hB;(conv=>whnf))))|(with_reducible first|refine z1 ?_|refine z2 ?_|refine z12 ?_|refine z13 ?_|refine z20 ?_)|((with_reducible refine gR ?_);((refine z31 rfl ?_);intro K hK;(conv=>whnf)))|((intro _;skip)<;>(conv=>whnf))))
        all_goals exact ⟨rfl, MemFits.pre 1 rfl⟩
    · have hy : Pd.sameL a b = true := hs.2 ⟨hl, fun j x y h1 h2 => hgone j x y (by have := (List.getElem?_eq_some_iff.1 h1).1; omega) h1 h2⟩
      rw [hy]
      (repeat' (first|(with_reducible first|(refine hK _ _ ?_;clear hK K)|(refine hB ?_;clear hA hB A B)|(refine hK _ ?_;clear hK K))|((with_reducible refine gO ?_);(first|((with_reducible refine z25 ?_);intro K hK;(conv=>whnf))|(with_reducible refine z0 ?_)))|((((with_reducible refine gI ?_);(((with_reducible refine NIf.decN ?s ?_);case s=>omega))))<;>(conv=>whnf))|((with_reducible refine gX ?_);(first|(with_reducible first|refine z3 ?_|refine z4 ?_|refine z7 ?_|refine z8 ?_)|((with_reducible refine z29 ?_);intro A B hA hB;(conv=>whnf))))|(with_reducible first|refine z1 ?_|refine z2 ?_|refine z10 ?_|refine z11 ?_|refine z19 ?_)|((with_reducible refine gR ?_);((refine z31 rfl ?_);intro K hK;(conv=>whnf)))))
      all_goals exact ⟨rfl, MemFits.pre 1 rfl⟩
  · have hne : Pd.sameL a b = false := by
      cases h : Pd.sameL a b with
      | false => rfl
      | true => exact (hl (hs.1 h).1).elim
    rw [hne]
    (repeat' (first|(with_reducible first|(refine hK _ _ ?_;clear hK K)|(refine hA ?_;clear hA hB A B)|(refine hK _ ?_;clear hK K))|((with_reducible refine gO ?_);(first|((with_reducible refine z25 ?_);intro K hK;(conv=>whnf))|(with_reducible refine z0 ?_)))|((first|((with_reducible refine gI ?_);(first|with_reducible refine NIf.not_ ?_|((with_reducible refine NIf.decN ?s ?_);case s=>omega)))|((with_reducible refine gH ?_);((with_reducible refine NH.mk ?s ?_);case s=>(and_intros<;>omega))))<;>(conv=>whnf))|((with_reducible refine gX ?_);(first|(with_reducible first|refine z3 ?_|refine z4 ?_|refine z8 ?_)|((with_reducible refine z29 ?_);intro A B hA hB;(conv=>whnf))))|(with_reducible first|refine z1 ?_|refine z2 ?_|refine z12 ?_)|((with_reducible refine gR ?_);((refine z31 rfl ?_);intro K hK;(conv=>whnf)))|((with_reducible refine gF ?_);((refine z33 rfl ?_);intro K hK;(conv=>whnf)))))
    all_goals exact ⟨rfl, MemFits.pre 1 rfl⟩
theorem same26_c : ∀ (n : Nat) (p q : Pd.T) (u w : Value), Pd.size p ≤ n → Pd.size p ≤ 4611686018427387904 → Pd.size q ≤ 4611686018427387904 → Pd.Row F u p.l → Pd.Row F w q.l →
    NCall Tryz.prog 143 [.agg (Pd.cs p u), .agg (Pd.cs q w)] [hpB F] fun r m => r = .bool (Pd.same p q) ∧ m = [hpB F]
  | 0, p, q, u, w, hn, _, _, _, _ => absurd (Pd.size_pos p) (by omega)
  | n + 1, ⟨k, f, v, l⟩, ⟨k', f', v', l'⟩, u, w, hn, hs, hs', hu, hw => by
    refine NCall.fits (K := fun r m => r = .bool (Pd.same (.mk k f v l) (.mk k' f' v' l')) ∧ MemFits m [hpB F]) ?_ fun r m' h => ⟨r, _, rfl, h.2, h.1, rfl⟩
    have hu : Pd.Row F u l := hu
    have hw : Pd.Row F w l' := hw
    have e : Pd.same (.mk k f v l) (.mk k' f' v' l') = (decide (k = k') && decide (f = f') && decide (v = v') && Pd.sameL l l') := by rw [Pd.same]
    have e2 : Pd.size (.mk k f v l) = 1 + Pd.sizeL l := by rw [Pd.size]
    have e3 : Pd.size (.mk k' f' v' l') = 1 + Pd.sizeL l' := by rw [Pd.size]
    have hll := Pd.length_le l
    have hll' := Pd.length_le l'
    have ce := equal26_c F u w l l' hu hw (by omega) (by omega) 143 fun x hx y hy A B hA hB => same26_c n x y A B (by have := Pd.size_lt (k := k) (f := f) (v := v) hx; omega) (by have := Pd.size_lt (k := k) (f := f) (v := v) hx; omega) (by have := Pd.size_lt (k := k') (f := f') (v := v') hy; omega) hA hB
    rw [e]
    generalize Pd.sameL l l' = sb at *
    refine ncall_of Tryz.func143 rfl (by decide) ?_
    rw [pd_cs, pd_cs]
    by_cases h1 : k = k'
    · by_cases h2 : f = f'
      · by_cases h3 : v = v'
        · subst h1 h2 h3
          (repeat' (first|(with_reducible first|(refine hK _ _ ?_;clear hK K)|(refine hK _ ?_;clear hK K))|((with_reducible refine gO ?_);(first|((with_reducible first|refine z25 ?_|refine z26 ?_);intro K hK;(conv=>whnf))|(with_reducible refine z0 ?_)))|((first|((with_reducible refine gI ?_);((((with_reducible refine NIf.yes ?s ?_);case s=>(simp ;done)))))|((with_reducible refine gN ?_);(with_reducible refine NN.a5 ?_))|((with_reducible refine gH ?_);((with_reducible refine NH.mk ?s ?_);case s=>(and_intros<;>with_reducible rfl)))|((with_reducible refine gC ?_);((with_reducible refine NCall.isF 153 ?_);refine NCall.subE [0] (ce) rfl (by decide) rfl rfl ?_)))<;>(conv=>whnf))|((with_reducible refine gX ?_);((with_reducible first|refine z3 ?_|refine z4 ?_|refine z8 ?_)))|(with_reducible first|refine z1 ?_|refine z2 ?_)|((with_reducible refine gR ?_);((refine z31 rfl ?_);intro K hK;(conv=>whnf)))|((with_reducible refine gF ?_);((refine z33 rfl ?_);intro K hK;(conv=>whnf)))|((intro _;skip)<;>(conv=>whnf))))
          all_goals exact ⟨by simp, MemFits.pre 1 rfl⟩
        · subst h1 h2
          (repeat' (first|(with_reducible first|(refine hK _ _ ?_;clear hK K)|(refine hK _ ?_;clear hK K))|((with_reducible refine gO ?_);(first|((with_reducible first|refine z25 ?_|refine z26 ?_);intro K hK;(conv=>whnf))|(with_reducible refine z0 ?_)))|((first|((with_reducible refine gI ?_);(first|(((with_reducible refine NIf.yes ?s ?_);case s=>(simp [h3];done)))|(((with_reducible refine NIf.no ?s ?_);case s=>(simp [h3];done)))))|((with_reducible refine gN ?_);(with_reducible refine NN.a5 ?_))|((with_reducible refine gH ?_);((with_reducible refine NH.mk ?s ?_);case s=>(and_intros<;>with_reducible rfl))))<;>(conv=>whnf))|((with_reducible refine gX ?_);((with_reducible first|refine z3 ?_|refine z4 ?_|refine z8 ?_)))|(with_reducible first|refine z1 ?_|refine z2 ?_)|((with_reducible refine gR ?_);((refine z31 rfl ?_);intro K hK;(conv=>whnf)))|((with_reducible refine gF ?_);((refine z33 rfl ?_);intro K hK;(conv=>whnf)))|((intro _;skip)<;>(conv=>whnf))))
          all_goals exact ⟨by simp [h3], MemFits.pre 1 rfl⟩
      · subst h1
        (repeat' (first|(with_reducible first|(refine hK _ _ ?_;clear hK K)|(refine hK _ ?_;clear hK K))|((with_reducible refine gO ?_);(first|((with_reducible first|refine z25 ?_|refine z26 ?_);intro K hK;(conv=>whnf))|(with_reducible refine z0 ?_)))|((first|((with_reducible refine gI ?_);(first|(((with_reducible refine NIf.yes ?s ?_);case s=>(simp [h2];done)))|(((with_reducible refine NIf.no ?s ?_);case s=>(simp [h2];done)))))|((with_reducible refine gN ?_);(with_reducible refine NN.a5 ?_))|((with_reducible refine gH ?_);((with_reducible refine NH.mk ?s ?_);case s=>(and_intros<;>with_reducible rfl))))<;>(conv=>whnf))|((with_reducible refine gX ?_);((with_reducible first|refine z3 ?_|refine z4 ?_|refine z8 ?_)))|(with_reducible first|refine z1 ?_|refine z2 ?_)|((with_reducible refine gR ?_);((refine z31 rfl ?_);intro K hK;(conv=>whnf)))|((with_reducible refine gF ?_);((refine z33 rfl ?_);intro K hK;(conv=>whnf)))|((intro _;skip)<;>(conv=>whnf))))
        all_goals exact ⟨by simp [h2], MemFits.pre 1 rfl⟩
    · (repeat' (first|(with_reducible first|(refine hK _ _ ?_;clear hK K)|(refine hK _ ?_;clear hK K))|((with_reducible refine gO ?_);(first|((with_reducible first|refine z25 ?_|refine z26 ?_);intro K hK;(conv=>whnf))|(with_reducible refine z0 ?_)))|((first|((with_reducible refine gI ?_);(first|((with_reducible refine NIf.decN ?s ?_);case s=>assumption)|((with_reducible refine NIf.no ?s ?_);case s=>rfl)))|((with_reducible refine gN ?_);(with_reducible refine NN.a5 ?_))|((with_reducible refine gH ?_);((with_reducible refine NH.mk ?s ?_);case s=>(and_intros<;>with_reducible rfl))))<;>(conv=>whnf))|((with_reducible refine gX ?_);((with_reducible first|refine z3 ?_|refine z4 ?_|refine z8 ?_)))|(with_reducible first|refine z1 ?_|refine z2 ?_)|((with_reducible refine gR ?_);((refine z31 rfl ?_);intro K hK;(conv=>whnf)))|((with_reducible refine gF ?_);((refine z33 rfl ?_);intro K hK;(conv=>whnf)))|((intro _;skip)<;>(conv=>whnf))))
      all_goals exact ⟨by simp [h1], MemFits.pre 1 rfl⟩
end
end Go.Proofs.YtaolcaggdddkpaaGreat
