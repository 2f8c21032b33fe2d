/-
  What a condition is at a switch: by the program, and by the document. (Printed by gen_ck4.py.)
-/
import Derived.Test.YtpkjnmddembkjaaGreatDoorCk3
namespace Go.Proofs.YtpkjnmddembkjaaGreatDoor
open Go.Sx
set_option maxRecDepth 20000
set_option linter.unusedSimpArgs false
set_option linter.unusedVariables false
set_option maxHeartbeats 4000000
set_option linter.unusedVariables false
theorem truth26_c (b : Bool) : NCall Tryz.prog 52 [.bool b] [] fun r _ => r = .agg [.int .i64 (if b then 1 else 2), .int .i64 0, .int .i64 0, .raw (.slice none 0 0)] := by
  refine ncall_of Tryz.func52 rfl (by decide) ?_
  cases b
  · (repeat' (first|(with_reducible first|(refine hK _ _ ?_;clear hK K)|(refine hB ?_;clear hA hB A B)|(refine hK _ ?_;clear hK K))|((with_reducible refine gO ?_);(first|((with_reducible refine z25 ?_);intro K hK;(conv=>whnf))|(with_reducible refine z0 ?_)))|((first|((with_reducible refine gI ?_);(((with_reducible refine NIf.no ?s ?_);case s=>rfl)))|((with_reducible refine gH ?_);((with_reducible refine NH.mk ?s ?_);case s=>(and_intros<;>first|with_reducible rfl|((with_reducible refine gOnes ?_);rfl)|((with_reducible refine gLen ?_);rfl)))))<;>(conv=>whnf))|((with_reducible refine gX ?_);(first|(with_reducible first|refine z3 ?_|refine z4 ?_|refine z6 ?_|refine z8 ?_)|((with_reducible refine z29 ?_);intro A B hA hB;(conv=>whnf))))|(with_reducible first|refine z1 ?_|refine z2 ?_)|((with_reducible refine gR ?_);((refine z31 rfl ?_);intro K hK;(conv=>whnf)))|((with_reducible refine gF ?_);((refine z33 rfl ?_);intro K hK;(conv=>whnf)))|((intro _;skip)<;>(conv=>whnf))))
    all_goals rfl
  · (repeat' (first|(with_reducible first|(refine hK _ _ ?_;clear hK K)|(refine hA ?_;clear hA hB A B)|(refine hK _ ?_;clear hK K))|((with_reducible refine gO ?_);(first|((with_reducible refine z25 ?_);intro K hK;(conv=>whnf))|(with_reducible refine z0 ?_)))|((first|((with_reducible refine gI ?_);(((with_reducible refine NIf.yes ?s ?_);case s=>rfl)))|((with_reducible refine gH ?_);((with_reducible refine NH.mk ?s ?_);case s=>(and_intros<;>first|with_reducible rfl|((with_reducible refine gOnes ?_);rfl)|((with_reducible refine gLen ?_);rfl)))))<;>(conv=>whnf))|((with_reducible refine gX ?_);(first|(with_reducible first|refine z3 ?_|refine z4 ?_|refine z8 ?_)|((with_reducible refine z29 ?_);intro A B hA hB;(conv=>whnf))))|(with_reducible first|refine z1 ?_|refine z2 ?_|refine z12 ?_)|((with_reducible refine gR ?_);((refine z31 rfl ?_);intro K hK;(conv=>whnf)))|((with_reducible refine gF ?_);((refine z33 rfl ?_);intro K hK;(conv=>whnf)))|((intro _;skip)<;>(conv=>whnf))))
    all_goals rfl
theorem foldcut_c (F : Heap) (k f v out d : Int) (w : Value) (ps : List (Pd.T × Value)) (hn : ps.length ≤ 1000000000000) (hall : ∀ p ∈ ps, Pd.Row F p.2 p.1.l) :
    NCall Tryz.prog 53 [.agg [.int .i64 k, .int .i64 f, .int .i64 v, .sl 1 w ps.length], .int .i64 out, .int .i64 d] [hpB F, ⟨addrOf w, Pd.psC ps, .row w 36 4 ps.length⟩] fun r m => ∃ F' u, F.le F' ∧ Pd.Row F' u (Pd.fold k f v out d (ps.map (·.1))).l ∧ r = .agg (Pd.cs (Pd.fold k f v out d (ps.map (·.1))) u) ∧ m = [hpB F', hpB noHeap] := by
  refine (Pd.out_know (fold26_c F k f v out d w ps hn hall)).fits fun r m' hr => ?_
  obtain ⟨F', u, h1, h2, h3, rfl⟩ := hr
  exact ⟨r, _, rfl, (MemFits.noHeap _).trans (MemFits.pick [1, 0] (by decide) rfl), F', u, h1, h2, h3, rfl⟩
/-- What is left. -/
theorem cut26_c : ∀ (n : Nat) (F : Heap) (p : Pd.T) (u : Value) (sw : Int), Pd.size p ≤ n → Pd.size p ≤ 1000000000000 → Pd.fits p = true → Pd.Row F u p.l →
    NCall Tryz.prog 22 [.agg (Pd.cs p u), .int .i64 sw] [hpB F] fun r m => Pd.Lays F (Pd.cut sw p) r m
  | 0, F, p, u, sw, hn, _, _, _ => absurd (Pd.size_pos p) (by omega)
  | n + 1, F, ⟨k, f, v, l⟩, u, sw, hn, hs, hf, hu => by
    refine Pd.out_know (t := 36) ?_
    have hu : Pd.Row F u l := hu
    have hok := hu.ok
    obtain ⟨hsh, hfl⟩ := Pd.fits_mk hf
    have hl12 : l.length ≤ 1000000000000 := by have := Pd.size_mk k f v l; have := Pd.length_le l; omega
    have hll := Pd.length_le l
    have ih : ∀ G, ∀ x ∈ l, ∀ w, Pd.Row G w x.l → NCall Tryz.prog 22 [.agg (Pd.cs x w), .int .i64 sw] [hpB G] fun r m => Pd.Lays G (Pd.cut sw x) r m := fun G x hx w hw => cut26_c n G x w sw (by have := Pd.size_lt (k := k) (f := f) (v := v) hx; omega) (by have := Pd.size_lt (k := k) (f := f) (v := v) hx; omega) (hfl x hx) hw
    have ct := truth26_c
    have hone : ∀ y ∈ l, 1 ≤ (Pd.cut sw y).k := fun y hy => (Pd.fits_k (Pd.cut_fits sw y (hfl y hy))).1
    rw [pd_cs]
    by_cases h35 : k = 3 ∧ f = 5
    · obtain ⟨rfl, rfl⟩ := h35
      rw [Pd.cut_sw]
      refine ncall_of Tryz.func22 rfl (by decide) ?_
      have ct := ct (decide (v = sw))
      simp only [decide_eq_true_eq] at ct
      (repeat' (first|(with_reducible first|(refine hK _ _ ?_;clear hK K)|(refine hA ?_;clear hA hB A B)|(refine hK _ ?_;clear hK K))|((with_reducible refine gO ?_);(first|((with_reducible first|refine z25 ?_|refine z26 ?_);intro K hK;(conv=>whnf))|(with_reducible refine z0 ?_)))|((first|((with_reducible refine gI ?_);((((with_reducible refine NIf.yes ?s ?_);case s=>(simp ;done)))))|((with_reducible refine gN ?_);(with_reducible refine NN.a5 ?_))|((with_reducible refine gH ?_);((with_reducible refine NH.mk ?s ?_);case s=>(and_intros<;>first|with_reducible rfl|((with_reducible refine gOnes ?_);rfl)|((with_reducible refine gLen ?_);rfl))))|((with_reducible refine gC ?_);((with_reducible refine NCall.isF 52 ?_);refine NCall.pureE (ct) ?_)))<;>(conv=>whnf))|((with_reducible refine gX ?_);(first|(with_reducible first|refine z3 ?_|refine z4 ?_|refine z8 ?_)|((with_reducible refine z29 ?_);intro A B hA hB;(conv=>whnf))))|(with_reducible first|refine z1 ?_|refine z2 ?_|refine z12 ?_)|((with_reducible refine gR ?_);((refine z31 rfl ?_);intro K hK;(conv=>whnf)))|((with_reducible refine gF ?_);((refine z33 rfl ?_);intro K hK;(conv=>whnf)))|((intro _;skip)<;>(conv=>whnf))))
      all_goals exact .inr ⟨F, .slice none 0 0, F.le_refl, ⟨SlOk.nil, fun k x hx => by simp [Pd.T.l] at hx⟩, rfl, MemFits.pre 1 rfl⟩
    by_cases h13 : k ≤ 3
    · have hl0 : l = [] := List.eq_nil_of_length_eq_zero (by omega)
      subst hl0
      rw [Pd.cut_no _ _ _ _ h35 (by omega)]
      clear ih hone ct hll
      rw [List.length_nil] at *
      refine ncall_of Tryz.func22 rfl (by decide) ?_
      (repeat' (first|(with_reducible first|(refine hK _ _ ?_;clear hK K)|(refine hB ?_;clear hA hB A B)|(refine hK _ ?_;clear hK K))|((with_reducible refine gO ?_);(first|((with_reducible first|refine z25 ?_|refine z26 ?_);intro K hK;(conv=>whnf))|(with_reducible refine z0 ?_)))|((first|((with_reducible refine gI ?_);(first|((with_reducible refine NIf.decY ?s ?_);case s=>assumption)|((with_reducible refine NIf.decN ?s ?_);case s=>first|assumption|omega)|((with_reducible refine NIf.no ?s ?_);case s=>rfl)|(with_reducible refine NIf.dec (fun _=>?_) (fun _=>?_))))|((with_reducible refine gN ?_);(with_reducible refine NN.a5 ?_))|((with_reducible refine gH ?_);((with_reducible refine NH.mk ?s ?_);case s=>(and_intros<;>first|with_reducible rfl|((with_reducible refine gOnes ?_);rfl)|((with_reducible refine gLen ?_);rfl)|omega))))<;>(conv=>whnf))|((with_reducible refine gX ?_);(first|(with_reducible refine st_rounds 1 ?_)|(with_reducible first|refine z3 ?_|refine z4 ?_|refine z5 ?_|refine z6 ?_|refine z7 ?_|refine z8 ?_)|((with_reducible refine z29 ?_);intro A B hA hB;(conv=>whnf))))|(with_reducible first|refine z1 ?_|refine z2 ?_|refine z9 ?_|refine z10 ?_|refine z11 ?_|refine z22 ?_)|((with_reducible refine gR ?_);((refine z31 rfl ?_);intro K hK;(conv=>whnf)))|((with_reducible refine gF ?_);((refine z33 rfl ?_);intro K hK;(conv=>whnf)))|((intro _;skip)<;>(conv=>whnf))))
      all_goals first
        | exact .inr ⟨F, .slice none 0 0, F.le_refl, ⟨SlOk.nil, fun k x hx => by simp [Pd.T.l] at hx⟩, rfl, MemFits.pre 1 rfl⟩
        | (exfalso; omega)
    refine ncall_of Tryz.func22 rfl (by decide) ?_
    have h3 : ¬ k = 3 := by omega
    (repeat' (first|(with_reducible first|(refine hK _ _ ?_;clear hK K)|(refine hB ?_;clear hA hB A B)|(refine hK _ ?_;clear hK K))|((with_reducible refine gO ?_);(first|((with_reducible first|refine z25 ?_|refine z26 ?_);intro K hK;(conv=>whnf))|(with_reducible refine z0 ?_)))|((first|((with_reducible refine gI ?_);(first|((with_reducible refine NIf.decN ?s ?_);case s=>assumption)|((with_reducible refine NIf.no ?s ?_);case s=>rfl)))|((with_reducible refine gN ?_);(with_reducible refine NN.a5 ?_))|((with_reducible refine gH ?_);((with_reducible refine NH.mk ?s ?_);case s=>(and_intros<;>first|with_reducible rfl|((with_reducible refine gOnes ?_);rfl)|((with_reducible refine gLen ?_);rfl)|omega))))<;>(conv=>whnf))|((with_reducible refine gX ?_);(first|(with_reducible first|refine z3 ?_|refine z4 ?_|refine z5 ?_|refine z6 ?_)|((with_reducible refine z29 ?_);intro A B hA hB;(conv=>whnf))))|(with_reducible first|refine z1 ?_|refine z2 ?_)|((with_reducible refine gF ?_);((refine z33 rfl ?_);intro K hK;(conv=>whnf)))|((intro _;skip)<;>(conv=>whnf))))
    refine st_auto (α := Heap × Value × List (Pd.T × Value)) (fun (G, w, ps) => F.le G ∧ ps.map (·.1) = (l.take ps.length).map (Pd.cut sw) ∧ ps.length ≤ l.length ∧ ∀ p ∈ ps, Pd.Row G p.2 p.1.l) (fun (G, w, ps) => [.keep, .keep, .keep, .keep, .keep, .keep, .keep, .drop, .keep, .keep, .keep, .keep, .keep, .keep, .keep, .keep, .keep, .keep, .keep, .keep, .keep, .keep, .keep, .keep, .keep, .keep, .keep, .keep, .keep, .keep, .keep, .set (.int .i64 ps.length), .drop, .drop, .drop, .drop, .drop, .drop, .drop, .drop, .drop, .drop, .drop, .drop, .keep, .keep, .keep, .keep, .keep, .keep, .keep, .keep, .keep, .keep, .keep, .keep, .keep, .keep, .keep, .keep, .keep, .keep, .keep, .keep, .keep, .keep, .keep, .keep, .keep, .keep, .keep, .keep, .keep, .keep, .keep, .keep])
      (fun (G, w, ps) => [.set (hpB G), .keep, .keep, .cells [.int .i64 k, .int .i64 f, .int .i64 v, .sl 4 w ps.length], .set ⟨addrOf w, Pd.psC ps, .row w 36 4 ps.length⟩]) (fun (G, w, ps) => l.length - ps.length) (F, .slice none 0 0, []) ⟨F.le_refl, rfl, Nat.zero_le _, fun p hp => by simp at hp⟩ ?_ ((MemFits.nilRow _ 36 4).trans (MemFits.congr rfl)) ?_
    · repeat (first | exact FitsSl.nil | refine FitsSl.any ?_ | refine FitsSl.cons (Fit1.int (by first | rfl | omega)) ?_ | refine FitsSl.cons (Fit1.bool rfl) ?_ | refine FitsSl.cons (Fit1.str rfl) ?_ | refine FitsSl.cons (Fit1.same (by intro h; cases h) (by with_reducible rfl)) ?_ | refine FitsSl.cons Fit1.nil_sl ?_ | refine FitsSl.cons (Fit1.hs rfl) ?_ | refine FitsSl.cons (Fit1.hp rfl rfl) ?_ | refine FitsSl.cons (Fit1.sl rfl) ?_ | refine FitsSl.cons (Fit1.ptr rfl rfl) ?_ | refine FitsSl.cons Fit1.raw ?_)
    (intro ⟨G, w, ps⟩ ⟨hle, hmap, hlen, hall⟩; intro K hK; (conv=>whnf); refine hK _ _ ?_; clear hK K)
    dsimp only
    generalize hk : ps.length = i at *
    by_cases hlt : i < l.length
    · have hx : l[i]? = some l[i] := List.getElem?_eq_getElem hlt
      obtain ⟨A, cap, hA, c0, c1, c2, c3⟩ := (Pd.Row.mono hle hu).get hx
      have hmem := List.mem_of_getElem? hx
      have c := ih G _ hmem _ hA
      have hnx : (l.take (i + 1)).map (Pd.cut sw) = (l.take i).map (Pd.cut sw) ++ [Pd.cut sw l[i]] := by rw [List.take_add_one, hx, List.map_append]; rfl
      clear ih
      generalize Pd.cut sw l[i] = y at *
      generalize l[i] = x at *
      have hpl := Pd.psC_len ps
      have hpn := Pd.psC_next ps
      generalize hpc : Pd.psC ps = pc at *
      obtain ⟨xk, xf, xv, xl⟩ := x
      obtain ⟨yk, yf, yv, yl⟩ := y
      simp only [Pd.Lays, Pd.cs, Pd.T.k, Pd.T.f, Pd.T.v, Pd.T.l] at c c0 c1 c2 c3 hA
      (repeat' (first|(with_reducible first|(refine hK _ _ ?_;clear hK K)|(refine hA ?_;clear hA hB A B)|(refine hK _ ?_;clear hK K))|((with_reducible refine gO ?_);(first|((with_reducible refine z25 ?_);intro K hK;(conv=>whnf))|(with_reducible refine z0 ?_)))|((first|((with_reducible refine gV ?_);(((with_reducible refine NV.i64 ?s ?_);case s=>omega)))|((with_reducible refine gI ?_);(((with_reducible refine NIf.decY ?s ?_);case s=>omega)))|((with_reducible refine gN ?_);(with_reducible first|refine NN.cast ?_|refine NN.a5 ?_|refine NN.keep ?_))|((with_reducible refine gH ?_);((with_reducible refine NH.mk ?s ?_);case s=>(and_intros<;>first|with_reducible rfl|((with_reducible refine gOnes ?_);rfl)|((with_reducible refine gLen ?_);rfl)|omega)))|((with_reducible refine gC ?_);((with_reducible refine NCall.isF 22 ?_);refine NCall.subw [0] _ _ (c) rfl (by decide) rfl ?_; rintro _ _ ⟨G', w', hle2, hrow, rfl, rfl⟩; refine ⟨Nat.le_of_ble_eq_true rfl, _, rfl, ?_⟩))|(with_reducible refine NLd.of (by with_reducible assumption) ?_))<;>(conv=>whnf))|((with_reducible refine gNO ?_);(first|(refine z36 rfl (by kernel_rfl) ?_; intro K hK; (conv=>whnf))|(refine z38 rfl (by kernel_rfl) ?_)|(refine z39 rfl rfl (by kernel_rfl) (by intro h; cases h) ?_)))|((with_reducible refine gNE ?_);(first|(refine z40 ?_ ?_; (intro K hK; (conv=>whnf)))|exact z42))|((with_reducible refine gX ?_);(first|(refine z35 (by kernel_rfl) _ rfl ?_)|(with_reducible first|refine z3 ?_|refine z4 ?_|refine z5 ?_|refine z6 ?_)|((with_reducible refine z29 ?_);intro A B hA hB;(conv=>whnf))))|(with_reducible first|refine z1 ?_|refine z2 ?_|refine z9 ?_)|((intro _;skip)<;>(conv=>whnf))))
      all_goals
        rename_i v9
        refine st_round (G', v9, ps ++ [(⟨yk, yf, yv, yl⟩, w')]) ⟨hle.trans hle2, by rw [List.map_append, hmap, List.length_append, hk]; exact hnx.symm, by rw [List.length_append, hk]; exact hlt, fun x hx => ?_⟩ (by rw [List.length_append, hk]; show l.length - (i + 1) < l.length - i; omega) ?_ (MemFits.pre 5 ?_)
        · rcases List.mem_append.1 hx with hx | hx
          · exact Pd.Row.mono hle2 (hall x hx)
          · rw [List.mem_singleton.1 hx]; exact hrow
        · simp only [List.length_append, hk]
          repeat (first | exact FitsSl.nil | refine FitsSl.any ?_ | refine FitsSl.cons (Fit1.int (by first | rfl | omega)) ?_ | refine FitsSl.cons (Fit1.bool rfl) ?_ | refine FitsSl.cons (Fit1.str rfl) ?_ | refine FitsSl.cons (Fit1.same (by intro h; cases h) (by with_reducible rfl)) ?_ | refine FitsSl.cons Fit1.nil_sl ?_ | refine FitsSl.cons (Fit1.hs rfl) ?_ | refine FitsSl.cons (Fit1.hp rfl rfl) ?_ | refine FitsSl.cons (Fit1.sl rfl) ?_ | refine FitsSl.cons (Fit1.ptr rfl rfl) ?_ | refine FitsSl.cons Fit1.raw ?_)
        · simp only [autoM, List.take, List.length_append, hk, hpn]
          rw [show i + [((⟨yk, yf, yv, yl⟩ : Pd.T), w')].length = i + 1 from rfl]
          rfl
    · have hkl : i = l.length := by omega
      subst hkl
      rw [List.take_length] at hmap
      have hk5 : k = 5 ∨ k = 6 → f = 0 ∧ v = 0 := fun h => by omega
      have hl1 : k = 4 → f = 0 ∧ v = 0 ∧ l.length = 1 := fun h => by omega
      have hk456 : k = 4 ∨ k = 5 ∨ k = 6 := by omega
      clear ih hsh hn
      by_cases h5 : k = 5
      · subst h5
        obtain ⟨rfl, rfl⟩ := hk5 (.inl rfl)
        clear hk5 hl1 hk456 h35 h13 h3
        have cf := foldcut_c G 5 0 0 1 2 w ps (by omega) hall
        rw [Pd.cut_5, ← hmap]
        rw [hk] at cf
        generalize Pd.fold 5 0 0 1 2 (ps.map (·.1)) = y at *
        obtain ⟨yk, yf, yv, yl⟩ := y
        simp only [Pd.cs, Pd.T.k, Pd.T.f, Pd.T.v, Pd.T.l] at cf
        (repeat' (first|(with_reducible first|(refine hK _ _ ?_;clear hK K)|(refine hA ?_;clear hA hB A B)|(refine hB ?_;clear hA hB A B)|(refine hK _ ?_;clear hK K))|((with_reducible refine gO ?_);(first|((with_reducible refine z25 ?_);intro K hK;(conv=>whnf))|(with_reducible refine z0 ?_)))|((first|((with_reducible refine gI ?_);(first|((with_reducible refine NIf.decY ?s ?_);case s=>with_reducible rfl)|((with_reducible refine NIf.decN ?s ?_);case s=>omega)))|((with_reducible refine gN ?_);(with_reducible refine NN.a5 ?_))|((with_reducible refine gH ?_);((with_reducible refine NH.mk ?s ?_);case s=>(and_intros<;>first|with_reducible rfl|((with_reducible refine gOnes ?_);rfl)|((with_reducible refine gLen ?_);rfl))))|((with_reducible refine gC ?_);((with_reducible refine NCall.isF 53 ?_);refine NCall.subw [0, 4] _ _ (cf) rfl (by decide) rfl ?_; rintro _ _ ⟨F', w', hle2, hrow, rfl, rfl⟩; refine ⟨Nat.le_of_ble_eq_true rfl, _, rfl, ?_⟩)))<;>(conv=>whnf))|((with_reducible refine gX ?_);(first|(with_reducible first|refine z3 ?_|refine z4 ?_|refine z5 ?_|refine z7 ?_|refine z8 ?_)|((with_reducible refine z29 ?_);intro A B hA hB;(conv=>whnf))))|(with_reducible first|refine z1 ?_|refine z2 ?_|refine z10 ?_|refine z11 ?_|refine z12 ?_|refine z13 ?_|refine z19 ?_)|((with_reducible refine gR ?_);((refine z31 rfl ?_);intro K hK;(conv=>whnf)))))
        all_goals exact .inr ⟨F', w', hle.trans hle2, hrow, rfl, MemFits.pre 1 rfl⟩
      by_cases h6 : k = 6
      · subst h6
        obtain ⟨rfl, rfl⟩ := hk5 (.inr rfl)
        clear hk5 hl1 hk456 h35 h13 h3 h5
        have cf := foldcut_c G 6 0 0 2 1 w ps (by omega) hall
        rw [Pd.cut_6, ← hmap]
        rw [hk] at cf
        generalize Pd.fold 6 0 0 2 1 (ps.map (·.1)) = y at *
        obtain ⟨yk, yf, yv, yl⟩ := y
        simp only [Pd.cs, Pd.T.k, Pd.T.f, Pd.T.v, Pd.T.l] at cf
        (repeat' (first|(with_reducible first|(refine hK _ _ ?_;clear hK K)|(refine hA ?_;clear hA hB A B)|(refine hB ?_;clear hA hB A B)|(refine hK _ ?_;clear hK K))|((with_reducible refine gO ?_);(first|((with_reducible refine z25 ?_);intro K hK;(conv=>whnf))|(with_reducible refine z0 ?_)))|((first|((with_reducible refine gI ?_);(first|((with_reducible refine NIf.decY ?s ?_);case s=>with_reducible rfl)|((with_reducible refine NIf.decN ?s ?_);case s=>omega)))|((with_reducible refine gN ?_);(with_reducible refine NN.a5 ?_))|((with_reducible refine gH ?_);((with_reducible refine NH.mk ?s ?_);case s=>(and_intros<;>first|with_reducible rfl|((with_reducible refine gOnes ?_);rfl)|((with_reducible refine gLen ?_);rfl))))|((with_reducible refine gC ?_);((with_reducible refine NCall.isF 53 ?_);refine NCall.subw [0, 4] _ _ (cf) rfl (by decide) rfl ?_; rintro _ _ ⟨F', w', hle2, hrow, rfl, rfl⟩; refine ⟨Nat.le_of_ble_eq_true rfl, _, rfl, ?_⟩)))<;>(conv=>whnf))|((with_reducible refine gX ?_);(first|(with_reducible first|refine z3 ?_|refine z4 ?_|refine z5 ?_|refine z7 ?_|refine z8 ?_)|((with_reducible refine z29 ?_);intro A B hA hB;(conv=>whnf))))|(with_reducible first|refine z1 ?_|refine z2 ?_|refine z10 ?_|refine z11 ?_|refine z12 ?_|refine z13 ?_|refine z19 ?_)|((with_reducible refine gR ?_);((refine z31 rfl ?_);intro K hK;(conv=>whnf)))))
        all_goals exact .inr ⟨F', w', hle.trans hle2, hrow, rfl, MemFits.pre 1 rfl⟩
      by_cases h4 : k = 4
      · subst h4
        obtain ⟨rfl, rfl, hl1⟩ := hl1 rfl
        clear hk5 hk456 h35 h13 h3 h5 h6
        match l, hl1, ps, hk, hmap with
        | [q], _, [(⟨yk, yf, yv, yl⟩, w')], _, hmap =>
          have hc : Pd.cut sw q = ⟨yk, yf, yv, yl⟩ := by simpa using hmap.symm
          have h1 := hone q (by simp)
          rw [Pd.cut_4, hc]
          rw [hc] at h1
          have hps : Pd.psC [((⟨yk, yf, yv, yl⟩ : Pd.T), w')] = [.int .i64 yk, .int .i64 yf, .int .i64 yv, .hs w' yl.length] := rfl
          rw [hps]
          simp only [Pd.T.k] at h1
          by_cases hy : yk ≤ 2
          · rw [if_pos (show (Pd.T.mk yk yf yv yl).k ≤ 2 from hy)]
            have ct := ct (decide (yk = 2))
            simp only [decide_eq_true_eq] at ct
            (repeat' (first|(with_reducible first|(refine hK _ _ ?_;clear hK K)|(refine hA ?_;clear hA hB A B)|(refine hB ?_;clear hA hB A B)|(refine hK _ ?_;clear hK K))|((with_reducible refine gO ?_);(first|((with_reducible first|refine z25 ?_|refine z26 ?_);intro K hK;(conv=>whnf))|(with_reducible refine z0 ?_)))|((first|((with_reducible refine gI ?_);(first|((with_reducible refine NIf.decY ?s ?_);case s=>first|with_reducible rfl|assumption)|((with_reducible refine NIf.decN ?s ?_);case s=>omega)))|((with_reducible refine gN ?_);(with_reducible first|refine NN.lit ?_|refine NN.a5 ?_|refine NN.a6 ?_))|((with_reducible refine gH ?_);((with_reducible refine NH.mk ?s ?_);case s=>(and_intros<;>first|with_reducible rfl|((with_reducible refine gOnes ?_);rfl)|((with_reducible refine gLen ?_);rfl)|omega)))|((with_reducible refine gC ?_);((with_reducible refine NCall.isF 52 ?_);refine NCall.pureE (ct) ?_)))<;>(conv=>whnf))|((with_reducible refine gX ?_);(first|(with_reducible first|refine z3 ?_|refine z4 ?_|refine z5 ?_|refine z7 ?_|refine z8 ?_)|((with_reducible refine z29 ?_);intro A B hA hB;(conv=>whnf))))|(with_reducible first|refine z1 ?_|refine z2 ?_|refine z10 ?_|refine z11 ?_|refine z12 ?_|refine z13 ?_|refine z19 ?_)|((with_reducible refine gR ?_);((refine z31 rfl ?_);intro K hK;(conv=>whnf)))))
            all_goals exact .inr ⟨G, .slice none 0 0, hle, ⟨SlOk.nil, fun k x hx => by simp [Pd.T.l] at hx⟩, rfl, MemFits.pre 1 rfl⟩
          · rw [if_neg (show ¬ (Pd.T.mk yk yf yv yl).k ≤ 2 from hy)]
            (repeat' (first|(with_reducible first|(refine hK _ _ ?_;clear hK K)|(refine hB ?_;clear hA hB A B)|(refine hK _ ?_;clear hK K))|((with_reducible refine gO ?_);(first|((with_reducible first|refine z25 ?_|refine z26 ?_);intro K hK;(conv=>whnf))|(with_reducible refine z0 ?_)))|((first|((with_reducible refine gI ?_);(first|((with_reducible refine NIf.decY ?s ?_);case s=>with_reducible rfl)|((with_reducible refine NIf.decN ?s ?_);case s=>first|assumption|omega)))|((with_reducible refine gN ?_);(with_reducible first|refine NN.lit ?_|refine NN.a5 ?_|refine NN.a6 ?_))|((with_reducible refine gH ?_);((with_reducible refine NH.mk ?s ?_);case s=>(and_intros<;>first|with_reducible rfl|((with_reducible refine gOnes ?_);rfl)|((with_reducible refine gLen ?_);rfl)|omega))))<;>(conv=>whnf))|((with_reducible refine gX ?_);(first|(with_reducible first|refine z3 ?_|refine z4 ?_|refine z5 ?_|refine z6 ?_|refine z7 ?_|refine z8 ?_)|((with_reducible refine z29 ?_);intro A B hA hB;(conv=>whnf))))|(with_reducible first|refine z1 ?_|refine z2 ?_|refine z9 ?_|refine z10 ?_|refine z11 ?_|refine z19 ?_)|((with_reducible refine gR ?_);((refine z31 rfl ?_);intro K hK;(conv=>whnf)))))
            all_goals exact .inl ⟨G, w, [(⟨yk, yf, yv, yl⟩, w')], hle, rfl, hall, rfl, MemFits.pick [0, 4] (by decide) rfl⟩
      · exfalso; omega
end Go.Proofs.YtpkjnmddembkjaaGreatDoor

