/-
  Trees: has a policy few cells?; Trees: which case is found.
-/
import Derived.Test.YtaolcaggdddkpaaGreatJ33
import Derived.Test.YtaolcaggdddkpaaGreatJ21
namespace Go.Proofs.YtaolcaggdddkpaaGreat
open Go.Sx
set_option maxRecDepth 20000
set_option linter.unusedSimpArgs false
set_option linter.unusedVariables false
set_option maxHeartbeats 4000000
set_option linter.unusedVariables false
namespace Tr
def fewN (x : Po.T) : Nat → Nat
  | 0 => 1
  | i + 1 => fewN x i * ((Po.asked i x ((Pd.top i).toNat + 1)).length + 1)
def few (x : Po.T) : Bool := decide (fewN x 5 ≤ 300) && decide (Po.size x ≤ 150)
theorem fewN_next (x : Po.T) (i : Nat) : fewN x (i + 1) = fewN x i * ((Po.asked i x ((Pd.top i).toNat + 1)).length + 1) := by rw [fewN]
theorem fewN_mono (x : Po.T) (i : Nat) : fewN x i ≤ fewN x (i + 1) := by
  rw [fewN_next]
  exact Nat.le_mul_of_pos_right _ (Nat.succ_pos _)
theorem fewN_le (x : Po.T) : ∀ (i j : Nat), i ≤ j → fewN x i ≤ fewN x j
  | i, 0, h => by obtain rfl : i = 0 := by omega
                  exact Nat.le_refl _
  | i, j + 1, h => by
    by_cases e : i = j + 1
    · subst e; exact Nat.le_refl _
    · exact Nat.le_trans (fewN_le x i j (by omega)) (fewN_mono x j)
theorem vl (sw : Int) (x : Po.T) (hf : Po.fits x = true) (i : Nat) : (Po.values i (Po.spec sw x)).length + 1 ≤ (Po.asked i x ((Pd.top i).toNat + 1)).length + 1 := by
  have h := Po.spec_vlen sw i x hf
  rw [Po.asked_values _ x hf]
  omega
theorem few_cells (sw : Int) (x : Po.T) (hf : Po.fits x = true) : ∀ i, Po.cellsN (Po.spec sw x) i ≤ fewN x i
  | 0 => Nat.le_refl _
  | i + 1 => by
    have h1 := Nat.mul_le_mul (few_cells sw x hf i) (vl sw x hf i)
    rw [Po.cellsN, fewN_next]
    omega
theorem few_cnt (sw : Int) (x : Po.T) (hf : Po.fits x = true) : cnt (Po.spec sw x) order ≤ fewN x 5 := by
  have h0 := vl sw x hf 0
  have h1 := vl sw x hf 1
  have h2 := vl sw x hf 2
  have h3 := vl sw x hf 3
  have h4 := vl sw x hf 4
  have e : fewN x 5 = ((Po.asked (4 : Nat) x ((Pd.top (4 : Nat)).toNat + 1)).length + 1) * (((Po.asked (0 : Nat) x ((Pd.top (0 : Nat)).toNat + 1)).length + 1) * (((Po.asked (1 : Nat) x ((Pd.top (1 : Nat)).toNat + 1)).length + 1) * (((Po.asked (2 : Nat) x ((Pd.top (2 : Nat)).toNat + 1)).length + 1) * (((Po.asked (3 : Nat) x ((Pd.top (3 : Nat)).toNat + 1)).length + 1) * 1)))) := by
    rw [fewN_next, fewN_next, fewN_next, fewN_next, fewN_next]
    show 1 * _ * _ * _ * _ * _ = _
    generalize (Po.asked (0 : Nat) x ((Pd.top (0 : Nat)).toNat + 1)).length + 1 = a0
    generalize (Po.asked (1 : Nat) x ((Pd.top (1 : Nat)).toNat + 1)).length + 1 = a1
    generalize (Po.asked (2 : Nat) x ((Pd.top (2 : Nat)).toNat + 1)).length + 1 = a2
    generalize (Po.asked (3 : Nat) x ((Pd.top (3 : Nat)).toNat + 1)).length + 1 = a3
    generalize (Po.asked (4 : Nat) x ((Pd.top (4 : Nat)).toNat + 1)).length + 1 = a4
    rw [Nat.one_mul, Nat.mul_one, Nat.mul_comm _ a4, Nat.mul_assoc (a0 * a1), Nat.mul_assoc a0]
  rw [e]
  exact Nat.mul_le_mul h4 (Nat.mul_le_mul h0 (Nat.mul_le_mul h1 (Nat.mul_le_mul h2 (Nat.mul_le_mul h3 (Nat.le_refl _)))))
theorem few_iff {x : Po.T} (h : few x = true) : fewN x 5 ≤ 300 ∧ Po.size x ≤ 150 := by
  unfold few at h
  simpa using h
end Tr
theorem few31_c (F : Heap) (x : Po.T) (pu u : Value) (hs : Po.tot x ≤ 1000000000) (hx : Po.At F x pu u) :
    NCall Tryz.prog 6 [.agg (Po.cs x pu u)] [hpB F] fun r m => r = .bool (Tr.few x) ∧ m = [hpB F] := by
  refine NCall.fits (K := fun r m => r = .bool (Tr.few x) ∧ ∃ F', F.le F' ∧ MemFits m [hpB F']) ?_ fun r m' ⟨h1, F', h2, h3⟩ => ⟨r, _, rfl, h3.trans (MemFits.less h2 []), h1, rfl⟩
  have hok := hx.l.ok
  have hpok := hx.p.ok
  have cv := fun (G : Heap) (hG : F.le G) (f : Nat) (hf : f ≤ 5) => refvalues27_c G x pu u f (by omega) (by omega) (Po.At.mono hG hx)
  have cs := fun G (hG : F.le G) => refsize27_c G _ x pu u (Nat.le_refl _) (by omega) (Po.At.mono hG hx)
  have hal : ∀ i : Nat, i < 5 → (Po.asked i x ((Pd.top i).toNat + 1)).length ≤ 256 := fun i hi => by
    have h1 := Po.asked_len (i : Int) x ((Pd.top i).toNat + 1)
    have h2 : Pd.top i ≤ 255 := by unfold Pd.top; split <;> first | omega | (split <;> first | omega | (split <;> omega))
    have h3 := Pd.top_nonneg i
    omega
  have hnx := Tr.fewN_next x
  have hmo := fun i (h : i ≤ 5) => Tr.fewN_le x i 5 h
  have h0 : Tr.fewN x 0 = 1 := rfl
  unfold Tr.few
  generalize Po.size x = sz at *
  generalize hC : Tr.fewN x = C at *
  clear hC
  have hsz : True := trivial
  clear hx
  obtain ⟨k, ⟨pk, pf, pv, pl⟩, f, v0, l⟩ := x
  simp only [Srt.Lays, Po.cs, Po.T.k, Po.T.p, Po.T.f, Po.T.v, Po.T.l, Pd.T.k, Pd.T.f, Pd.T.v, Pd.T.l] at *
  refine ncall_of Tryz.func6 rfl (by decide) ?_
  (repeat' (first|(with_reducible first|(refine hK _ _ ?_;clear hK K)|(refine hK _ ?_;clear hK K))|((with_reducible refine gO ?_);(first|((with_reducible refine z25 ?_);intro K hK;(conv=>whnf))|(with_reducible refine z0 ?_)))|((with_reducible refine gX ?_);((with_reducible first|refine z3 ?_|refine z4 ?_|refine z5 ?_)))|(with_reducible first|refine z1 ?_|refine z2 ?_)|((with_reducible refine gF ?_);((refine z33 rfl ?_);intro K hK;(conv=>whnf)))|((intro _;skip)<;>(conv=>whnf))))
  refine st_auto (α := Heap × Nat) (fun (G, i) => F.le G ∧ i ≤ 5 ∧ C i ≤ 300) (fun (G, i) => [.keep, .keep, .set (.bool false), .set (.int .i64 (C i : Nat)), .set (.int .i64 i), .drop, .drop, .drop, .drop, .drop, .drop, .drop, .drop, .drop, .drop, .drop, .drop, .drop, .keep, .keep, .keep]) (fun (G, i) => [.set (hpB G)]) (fun (G, i) => 5 - i) (F, 0) ⟨F.le_refl, by decide, by rw [h0]; decide⟩ ?_ (MemFits.eq rfl) ?_
  · repeat (first|exact FitsSl.nil|refine FitsSl.any ?_|refine FitsSl.cons (Fit1.int (by  simp [h0])) ?_|refine FitsSl.cons (Fit1.bool rfl) ?_|refine FitsSl.cons (Fit1.same (by intro h; cases h) (by with_reducible rfl)) ?_)
  (intro ⟨G, i⟩ ⟨hle, hi, hci⟩; intro K hK; (conv=>whnf); refine hK _ _ ?_; clear hK K)
  dsimp only
  by_cases hlt : i < 5
  · have c := (cv G hle i (by omega)).mono (K' := fun r m => ∃ F' v, G.le F' ∧ SlOk v (Po.asked i (.mk k (.mk pk pf pv pl) f v0 l) ((Pd.top i).toNat + 1)).length ∧ r = .hs v (Po.asked i (.mk k (.mk pk pf pv pl) f v0 l) ((Pd.top i).toNat + 1)).length ∧ m = [hpB F']) fun r m ⟨F', v, h1, h2, h3, h4⟩ => ⟨F', v, h1, h2.ok, h3, h4⟩
    have hn := hnx i
    have hl := hal i hlt
    have hmi := hmo (i + 1) (by omega)
    clear cv hnx hal hmo
    generalize Po.asked i (.mk k (.mk pk pf pv pl) f v0 l) ((Pd.top i).toNat + 1) = L at *
    generalize C i = c0 at *
    have hprod : ((c0 : Int) * ((L.length : Int) + 1)) = ((c0 * (L.length + 1) : Nat) : Int) := by push_cast; rfl
    have hb : c0 * (L.length + 1) ≤ 100000 := Nat.le_trans (Nat.mul_le_mul hci (show L.length + 1 ≤ 257 by omega)) (by decide)
    rw [← hn] at hprod hb
    by_cases hgo : C (i + 1) ≤ 300
    · (repeat' (first|(with_reducible first|(refine hK _ _ ?_;clear hK K)|(refine hA ?_;clear hA hB A B)|(refine hB ?_;clear hA hB A B))|((with_reducible refine gO ?_);(first|((with_reducible refine z25 ?_);intro K hK;(conv=>whnf))|(with_reducible refine z0 ?_)))|((first|((with_reducible refine gV ?_);(((with_reducible refine NV.i64 ?s ?_);case s=>omega)))|((with_reducible refine gI ?_);(first|((with_reducible refine NIf.decY ?s ?_);case s=>omega)|((with_reducible refine NIf.decN ?s ?_);case s=>omega)))|((with_reducible refine gH ?_);((with_reducible refine NH.mk ?s ?_);case s=>(and_intros<;>first|with_reducible rfl|omega)))|((with_reducible refine gC ?_);((with_reducible refine NCall.isF 21 ?_);refine NCall.subw [0] _ _ (c) rfl (by decide) rfl ?_; rintro _ _ ⟨F', w', hle2, hok2, rfl, rfl⟩; refine ⟨Nat.le_of_ble_eq_true rfl, _, rfl, ?_⟩)))<;>(conv=>whnf))|((with_reducible refine gX ?_);(first|(with_reducible first|refine z3 ?_|refine z4 ?_|refine z5 ?_|refine z6 ?_)|((with_reducible refine z29 ?_);intro A B hA hB;(conv=>whnf))))|(with_reducible first|refine z1 ?_|refine z2 ?_|refine z9 ?_)))
      all_goals first | (exfalso; omega) | skip
      all_goals
        refine st_round (F', i + 1) ⟨hle.trans hle2, hlt, hgo⟩ (show 5 - (i + 1) < 5 - i by omega) ?_ (MemFits.pre 2 rfl)
        repeat (first|exact FitsSl.nil|refine FitsSl.any ?_|refine FitsSl.cons (Fit1.int (by  omega)) ?_|refine FitsSl.cons (Fit1.bool rfl) ?_|refine FitsSl.cons (Fit1.same (by intro h; cases h) (by with_reducible rfl)) ?_)
    · have hno : ¬ C 5 ≤ 300 := fun h => hgo (Nat.le_trans hmi h)
      rw [decide_eq_false hno, Bool.false_and]
      (repeat' (first|(with_reducible first|(refine hK _ _ ?_;clear hK K)|(refine hA ?_;clear hA hB A B)|(refine hK _ ?_;clear hK K))|((with_reducible refine gO ?_);(first|((with_reducible refine z25 ?_);intro K hK;(conv=>whnf))|(with_reducible refine z0 ?_)))|((first|((with_reducible refine gV ?_);(((with_reducible refine NV.i64 ?s ?_);case s=>omega)))|((with_reducible refine gI ?_);(((with_reducible refine NIf.decY ?s ?_);case s=>omega)))|((with_reducible refine gH ?_);((with_reducible refine NH.mk ?s ?_);case s=>(and_intros<;>first|with_reducible rfl|omega)))|((with_reducible refine gC ?_);((with_reducible refine NCall.isF 21 ?_);refine NCall.subw [0] _ _ (c) rfl (by decide) rfl ?_; rintro _ _ ⟨F', w', hle2, hok2, rfl, rfl⟩; refine ⟨Nat.le_of_ble_eq_true rfl, _, rfl, ?_⟩)))<;>(conv=>whnf))|((with_reducible refine gX ?_);(first|(with_reducible first|refine z3 ?_|refine z4 ?_|refine z5 ?_|refine z6 ?_|refine z8 ?_)|((with_reducible refine z29 ?_);intro A B hA hB;(conv=>whnf))))|(with_reducible first|refine z1 ?_|refine z2 ?_|refine z12 ?_|refine z13 ?_|refine z20 ?_)|((with_reducible refine gR ?_);((refine z31 rfl ?_);intro K hK;(conv=>whnf)))))
      all_goals first | (exfalso; omega) | exact ⟨rfl, F', hle.trans hle2, MemFits.pre 1 rfl⟩
  · obtain rfl : i = 5 := by omega
    rw [decide_eq_true hci, Bool.true_and]
    (repeat' (first|(with_reducible first|(refine hK _ _ ?_;clear hK K)|(refine hB ?_;clear hA hB A B)|(refine hK _ ?_;clear hK K))|((with_reducible refine gO ?_);(first|((with_reducible refine z25 ?_);intro K hK;(conv=>whnf))|(with_reducible refine z0 ?_)))|((first|((with_reducible refine gI ?_);(((with_reducible refine NIf.decN ?s ?_);case s=>omega)))|((with_reducible refine gH ?_);((with_reducible refine NH.mk ?s ?_);case s=>(and_intros<;>with_reducible rfl)))|((with_reducible refine gC ?_);((with_reducible refine NCall.isF 22 ?_);refine NCall.subE [0] (cs G hle) rfl (by decide) rfl rfl ?_)))<;>(conv=>whnf))|((with_reducible refine gX ?_);(first|(with_reducible first|refine z3 ?_|refine z4 ?_|refine z7 ?_|refine z8 ?_)|((with_reducible refine z29 ?_);intro A B hA hB;(conv=>whnf))))|(with_reducible first|refine z1 ?_|refine z2 ?_|refine z10 ?_|refine z11 ?_|refine z19 ?_)|((with_reducible refine gR ?_);((refine z31 rfl ?_);intro K hK;(conv=>whnf)))))
    all_goals exact ⟨by first | rfl | (congr 1; exact decide_eq_decide.2 (by omega)), G, hle, MemFits.pre 1 rfl⟩
end Go.Proofs.YtaolcaggdddkpaaGreat
namespace Go.Proofs.YtaolcaggdddkpaaGreat
open Go.Sx
set_option maxRecDepth 20000
set_option linter.unusedSimpArgs false
set_option linter.unusedVariables false
set_option maxHeartbeats 4000000
set_option linter.unusedVariables false
namespace Tr
def idxN (q : C → Bool) : List C → Nat → Int
  | [], _ => -1
  | x :: l, n => if q x = true then (n : Int) else idxN q l (n + 1)
def idx (q : C → Bool) (l : List C) : Int := idxN q l 0
theorem idxN_drop (q : C → Bool) {l : List C} {i : Nat} {x : C} (hx : l[i]? = some x) : idxN q (l.drop i) i = if q x = true then (i : Int) else idxN q (l.drop (i + 1)) (i + 1) := by
  obtain ⟨h1, rfl⟩ := List.getElem?_eq_some_iff.1 hx
  rw [List.drop_eq_getElem_cons h1, idxN]
theorem idxN_find (q : C → Bool) : ∀ (l : List C) (n : Nat) (c : C), l.find? q = some c → ∃ i, idxN q l n = ((n + i : Nat) : Int) ∧ l[i]? = some c
  | [], n, c, h => by simp at h
  | x :: l, n, c, h => by
    rw [List.find?_cons] at h
    rw [idxN]
    cases hq : q x with
    | true =>
      rw [hq] at h
      injection h with h
      subst h
      exact ⟨0, by simp, rfl⟩
    | false =>
      rw [hq] at h
      obtain ⟨i, h1, h2⟩ := idxN_find q l (n + 1) c h
      exact ⟨i + 1, by simp; rw [h1]; omega, h2⟩
theorem idx_find {q : C → Bool} {l : List C} {c : C} (h : l.find? q = some c) : ∃ i : Nat, idx q l = (i : Int) ∧ l[i]? = some c := by
  obtain ⟨i, h1, h2⟩ := idxN_find q l 0 c h
  exact ⟨i, by unfold idx; rw [h1]; simp, h2⟩
theorem hit_eq (t : Po.S) (c : C) : hit t c = (decide (c.s.p0 = -1 ∨ c.s.p0 = t.p0) && (decide (c.s.p1 = -1 ∨ c.s.p1 = t.p1) && (decide (c.s.p2 = -1 ∨ c.s.p2 = t.p2) && (decide (c.s.p3 = -1 ∨ c.s.p3 = t.p3) && decide (c.s.port = -1 ∨ c.s.port = t.port))))) := by
  rw [Bool.eq_iff_iff]
  simp only [hit, decide_eq_true_eq, Bool.and_eq_true]
  constructor
  · intro h
    exact ⟨h 0 (by decide), h 1 (by decide), h 2 (by decide), h 3 (by decide), h 4 (by decide)⟩
  · rintro ⟨h0, h1, h2, h3, h4⟩ f hf
    simp only [order, List.mem_cons, List.not_mem_nil, or_false] at hf
    rcases hf with rfl | rfl | rfl | rfl | rfl
    · exact h4
    · exact h0
    · exact h1
    · exact h2
    · exact h3
end Tr
theorem indexC_c (F : Heap) (q : Tr.C → Bool) (v : Value) (l : List Tr.C) (hv : Tr.Row F v l) (hn : l.length ≤ 4611686018427387904) (g : FuncId) (captured : List AV)
    (hg : ∀ x ∈ l, ∀ A, Po.SRow F A x.out → NCall Tryz.prog g ([.agg (Tr.cs x A)] ++ captured) [hpB F] fun r m => r = .bool (q x) ∧ m = [hpB F]) :
    NCall Tryz.prog 33 [.hs v l.length, .fn g [] captured] [hpB F] fun r m => r = .int .i64 (Tr.idx q l) ∧ m = [hpB F] := by
  have hok := hv.ok
  have hd := fun i x h => Tr.idxN_drop q (l := l) (i := i) (x := x) h
  refine ncall_of Tryz.func33 rfl (by decide) ?_
  (repeat' (first|(with_reducible first|(refine hK _ _ ?_;clear hK K)|(refine hK _ ?_;clear hK K))|((with_reducible refine gO ?_);(first|((with_reducible refine z25 ?_);intro K hK;(conv=>whnf))|(with_reducible refine z0 ?_)))|((((with_reducible refine gH ?_);((with_reducible refine NH.mk ?s ?_);case s=>(and_intros<;>omega))))<;>(conv=>whnf))|((with_reducible refine gX ?_);((with_reducible first|refine z3 ?_|refine z4 ?_|refine z5 ?_)))|(with_reducible first|refine z1 ?_|refine z2 ?_)|((with_reducible refine gF ?_);((refine z33 rfl ?_);intro K hK;(conv=>whnf)))))
  refine st_auto (α := Nat) (fun k => k ≤ l.length ∧ Tr.idx q l = Tr.idxN q (l.drop k) k) (fun k => [.keep, .keep, .keep, .keep, .drop, .drop, .keep, .keep, .set (.int .i64 k), .drop, .drop, .drop, .drop, .drop, .drop, .drop, .drop, .drop, .drop]) (fun _ => []) (fun k => l.length - k) 0 ⟨Nat.zero_le _, rfl⟩ ?_ (MemFits.eq rfl) ?_
  · repeat (first|exact FitsSl.nil|refine FitsSl.any ?_|refine FitsSl.cons (Fit1.int (by first | rfl | omega)) ?_|refine FitsSl.cons (Fit1.same (by intro h; cases h) (by with_reducible rfl)) ?_)
  (intro k ⟨hk, he⟩; intro K hK; (conv=>whnf); refine hK _ _ ?_; clear hK K)
  by_cases hlt : k < l.length
  · have hx : l[k]? = some l[k] := List.getElem?_eq_getElem hlt
    obtain ⟨A, cap, hA, c0, c1, c2, c3, c4, c5⟩ := hv.get hx
    have c := hg _ (List.getElem_mem hlt) _ hA
    have hoA := hA.ok
    have hnx := hd k _ hx
    clear hg hA hd
    generalize l[k] = x at *
    generalize hb : q x = b at *
    clear hb
    obtain ⟨⟨x0, x1, x2, x3, x4⟩, xo⟩ := x
    simp only [Tr.cs, List.cons_append, List.nil_append] at *
    cases b with
    | false =>
      rw [if_neg (by decide)] at hnx
      (repeat' (first|(with_reducible first|(refine hK _ _ ?_;clear hK K)|(refine hA ?_;clear hA hB A B)|(refine hB ?_;clear hA hB A B))|((with_reducible refine gO ?_);(first|((with_reducible refine z25 ?_);intro K hK;(conv=>whnf))|(with_reducible refine z0 ?_)))|((first|((with_reducible refine gV ?_);(((with_reducible refine NV.i64 ?s ?_);case s=>omega)))|((with_reducible refine gI ?_);(first|((with_reducible refine NIf.decY ?s ?_);case s=>omega)|((with_reducible refine NIf.no ?s ?_);case s=>rfl)))|((with_reducible refine gN ?_);(with_reducible first|refine NN.cast ?_|refine NN.keep ?_))|((with_reducible refine gH ?_);((with_reducible refine NH.mk ?s ?_);case s=>(and_intros<;>omega)))|((with_reducible refine gC ?_);((with_reducible refine NCall.isF g ?_);refine NCall.subE [0] (c) rfl (by decide) rfl rfl ?_))|(with_reducible refine NLd.of (by with_reducible assumption) ?_))<;>(conv=>whnf))|((with_reducible refine gX ?_);(first|(with_reducible first|refine z3 ?_|refine z4 ?_|refine z5 ?_|refine z6 ?_)|((with_reducible refine z29 ?_);intro A B hA hB;(conv=>whnf))))|(with_reducible first|refine z1 ?_|refine z2 ?_|refine z9 ?_)))
      refine st_round (k + 1) ⟨hlt, he.trans hnx⟩ (by omega) ?_ (MemFits.eq rfl)
      repeat (first|exact FitsSl.nil|refine FitsSl.any ?_|refine FitsSl.cons (Fit1.int (by first | rfl | omega)) ?_|refine FitsSl.cons (Fit1.same (by intro h; cases h) (by with_reducible rfl)) ?_)
    | true =>
      rw [if_pos rfl] at hnx
      rw [he, hnx]
      (repeat' (first|(with_reducible first|(refine hK _ _ ?_;clear hK K)|(refine hA ?_;clear hA hB A B)|(refine hK _ ?_;clear hK K))|((with_reducible refine gO ?_);(first|((with_reducible refine z25 ?_);intro K hK;(conv=>whnf))|(with_reducible refine z0 ?_)))|((first|((with_reducible refine gI ?_);(first|((with_reducible refine NIf.decY ?s ?_);case s=>omega)|((with_reducible refine NIf.yes ?s ?_);case s=>rfl)))|((with_reducible refine gN ?_);(with_reducible first|refine NN.cast ?_|refine NN.keep ?_))|((with_reducible refine gH ?_);((with_reducible refine NH.mk ?s ?_);case s=>(and_intros<;>omega)))|((with_reducible refine gC ?_);((with_reducible refine NCall.isF g ?_);refine NCall.subE [0] (c) rfl (by decide) rfl rfl ?_))|(with_reducible refine NLd.of (by with_reducible assumption) ?_))<;>(conv=>whnf))|((with_reducible refine gX ?_);(first|(with_reducible first|refine z3 ?_|refine z4 ?_|refine z5 ?_|refine z6 ?_|refine z8 ?_)|((with_reducible refine z29 ?_);intro A B hA hB;(conv=>whnf))))|(with_reducible first|refine z1 ?_|refine z2 ?_|refine z12 ?_|refine z13 ?_|refine z20 ?_)|((with_reducible refine gR ?_);((refine z31 rfl ?_);intro K hK;(conv=>whnf)))))
      exact ⟨rfl, rfl⟩
  · have hkl : k = l.length := by omega
    subst hkl
    rw [List.drop_length] at he
    rw [he]
    (repeat' (first|(with_reducible first|(refine hK _ _ ?_;clear hK K)|(refine hB ?_;clear hA hB A B)|(refine hK _ ?_;clear hK K))|((with_reducible refine gO ?_);(first|((with_reducible refine z25 ?_);intro K hK;(conv=>whnf))|(with_reducible refine z0 ?_)))|((((with_reducible refine gI ?_);(((with_reducible refine NIf.decN ?s ?_);case s=>omega))))<;>(conv=>whnf))|((with_reducible refine gX ?_);(first|(with_reducible first|refine z3 ?_|refine z4 ?_|refine z7 ?_|refine z8 ?_)|((with_reducible refine z29 ?_);intro A B hA hB;(conv=>whnf))))|(with_reducible first|refine z1 ?_|refine z2 ?_|refine z10 ?_|refine z11 ?_|refine z19 ?_)|((with_reducible refine gR ?_);((refine z31 rfl ?_);intro K hK;(conv=>whnf)))))
    exact ⟨rfl, rfl⟩
theorem find1_c (F : Heap) (t : Po.S) (c : Tr.C) (A : Value) (hA : Po.SRow F A c.out) (pb tb : Addr) (hp : CellsF F pb 0 [.int .i64 t.p0, .int .i64 t.p1, .int .i64 t.p2, .int .i64 t.p3]) (ht : F.c (tb.add 0) (.int .i64 t.port)) :
    NCall Tryz.prog 34 [.agg (Tr.cs c A), .hp pb 0, .hp tb 0] [hpB F] fun r m => r = .bool (Tr.hit t c) ∧ m = [hpB F] := by
  refine NCall.fits (K := fun r m => r = .bool (Tr.hit t c) ∧ MemFits m [hpB F]) ?_ fun r m' h => ⟨r, _, rfl, h.2, h.1, rfl⟩
  have hoA := hA.ok
  rw [Tr.hit_eq]
  have i0 := is31_c c.s.p0 t.p0
  have i1 := is31_c c.s.p1 t.p1
  have i2 := is31_c c.s.p2 t.p2
  have i3 := is31_c c.s.p3 t.p3
  have i4 := is31_c c.s.port t.port
  obtain ⟨e0, e1, e2, e3, _⟩ := hp
  have e1 : F.c (pb.add ((0 : Int) + 1).toNat) (.int .i64 t.p1) := e1
  have e2 : F.c (pb.add ((0 : Int) + 1 + 1).toNat) (.int .i64 t.p2) := e2
  have e3 : F.c (pb.add ((0 : Int) + 1 + 1 + 1).toNat) (.int .i64 t.p3) := e3
  generalize decide (c.s.p0 = -1 ∨ c.s.p0 = t.p0) = d0 at *
  generalize decide (c.s.p1 = -1 ∨ c.s.p1 = t.p1) = d1 at *
  generalize decide (c.s.p2 = -1 ∨ c.s.p2 = t.p2) = d2 at *
  generalize decide (c.s.p3 = -1 ∨ c.s.p3 = t.p3) = d3 at *
  generalize decide (c.s.port = -1 ∨ c.s.port = t.port) = d4 at *
  obtain ⟨⟨x0, x1, x2, x3, x4⟩, xo⟩ := c
  obtain ⟨t0, t1, t2, t3, t4⟩ := t
  simp only [Tr.cs] at *
  refine ncall_of Tryz.func34 rfl (by decide) ?_
  (repeat' (first|(with_reducible first|(refine hK _ _ ?_;clear hK K)|(refine hA ?_;clear hA hB A B)|(refine hB ?_;clear hA hB A B)|(refine hK _ ?_;clear hK K))|((with_reducible refine gO ?_);(first|((with_reducible refine z25 ?_);intro K hK;(conv=>whnf))|(with_reducible refine z0 ?_)))|((first|((with_reducible refine gV ?_);(((with_reducible refine NV.i64 ?s ?_);case s=>omega)))|((with_reducible refine gI ?_);(first|with_reducible refine NIf.not_ ?_|((with_reducible refine NIf.decY ?s ?_);case s=>omega)|((with_reducible refine NIf.decN ?s ?_);case s=>omega)|(with_reducible refine NIf.both (fun _=>?_) (fun _=>?_))))|((with_reducible refine gN ?_);(with_reducible first|refine NN.lit ?_|refine NN.a1 ?_|refine NN.a2 ?_|refine NN.a5 ?_|refine NN.keep ?_))|((with_reducible refine gH ?_);((with_reducible refine NH.mk ?s ?_);case s=>(and_intros<;>first|with_reducible rfl|omega)))|((with_reducible refine gC ?_);(first|((with_reducible refine NCall.isF 35 ?_);refine NCall.pureE (i0) ?_)|((with_reducible refine NCall.isF 35 ?_);refine NCall.pureE (i1) ?_)|((with_reducible refine NCall.isF 35 ?_);refine NCall.pureE (i2) ?_)|((with_reducible refine NCall.isF 35 ?_);refine NCall.pureE (i3) ?_)|((with_reducible refine NCall.isF 35 ?_);refine NCall.pureE (i4) ?_)))|(with_reducible refine NLd.of (by with_reducible assumption) ?_))<;>(conv=>whnf))|((with_reducible refine gX ?_);(first|(with_reducible refine st_rounds 5 ?_)|(with_reducible first|refine z3 ?_|refine z4 ?_|refine z5 ?_|refine z6 ?_|refine z7 ?_|refine z8 ?_)|((with_reducible refine z29 ?_);intro A B hA hB;(conv=>whnf))))|(with_reducible first|refine z1 ?_|refine z2 ?_|refine z9 ?_|refine z10 ?_|refine z11 ?_|refine z12 ?_|refine z13 ?_|refine z21 ?_|refine z22 ?_|refine z23 ?_)|((with_reducible refine gR ?_);((refine z31 rfl ?_);intro K hK;(conv=>whnf)))|((with_reducible refine gF ?_);((refine z33 rfl ?_);intro K hK;(conv=>whnf)))|((intro _;skip)<;>(conv=>whnf))))
  all_goals exact ⟨by simp_all, MemFits.pre 1 rfl⟩
theorem find31_c (F : Heap) (t : Po.S) (v : Value) (l : List Tr.C) (hv : Tr.Row F v l) (hn : l.length ≤ 4611686018427387904) :
    NCall Tryz.prog 13 [.hs v l.length, .int .i64 t.port, .agg [.int .i64 t.p0, .int .i64 t.p1, .int .i64 t.p2, .int .i64 t.p3]] [hpB F] fun r m => r = .int .i64 (Tr.idx (Tr.hit t) l) ∧ m = [hpB F] := by
  refine NCall.fits (K := fun r m => r = .int .i64 (Tr.idx (Tr.hit t) l) ∧ MemFits m [hpB F]) ?_ fun r m' h => ⟨r, _, rfl, h.2, h.1, rfl⟩
  have hok := hv.ok
  have kE : ∀ a b : Nat, NCall Tryz.prog 33 [.hs v l.length, .fn 34 [] [.ptr 2 ⟨b, 0, none⟩ 0, .ptr 1 ⟨a, 0, none⟩ 0]] [hpB F, ⟨⟨a, 0, none⟩, [.int .i64 t.port], .var 3⟩, ⟨⟨b, 0, none⟩, [.int .i64 t.p0, .int .i64 t.p1, .int .i64 t.p2, .int .i64 t.p3], .var 29⟩] fun r m => r = .int .i64 (Tr.idx (Tr.hit t) l) ∧ m = [hpB F, ⟨⟨a, 0, none⟩, [.int .i64 t.port], .var 3⟩, ⟨⟨b, 0, none⟩, [.int .i64 t.p0, .int .i64 t.p1, .int .i64 t.p2, .int .i64 t.p3], .var 29⟩] := fun a b => by
    have hnew := addF.new (F := F) (a := ⟨a, 0, none⟩) (vs := denL [.int .i64 t.port])
    obtain ⟨d0, _⟩ := hnew
    exact NCall.keep (indexC_c (addF (addF F ⟨a, 0, none⟩ (denL [.int .i64 t.port])) ⟨b, 0, none⟩ (denL [.int .i64 t.p0, .int .i64 t.p1, .int .i64 t.p2, .int .i64 t.p3])) (Tr.hit t) v l (Tr.Row.mono (addF.old.trans addF.old) hv) hn 34 [.hp ⟨b, 0, none⟩ 0, .hp ⟨a, 0, none⟩ 0] fun x hx A hA => find1_c _ t x A hA _ _ addF.new (addF.old.c _ _ d0)) rfl ((MemFits.freezeVar (m := [_])).trans (MemFits.freezeVar (m := []))) rfl fun r mL' h => ⟨r, rfl, h.1, rfl⟩
  generalize Tr.idx (Tr.hit t) l = z at *
  obtain ⟨t0, t1, t2, t3, t4⟩ := t
  simp only at *
  refine ncall_of Tryz.func13 rfl (by decide) ?_
  (repeat' (first|(with_reducible first|(refine hK _ _ ?_;clear hK K)|(refine hK _ ?_;clear hK K))|((with_reducible refine gO ?_);(first|((with_reducible refine z25 ?_);intro K hK;(conv=>whnf))|(with_reducible refine z0 ?_)))|((((with_reducible refine gC ?_);((with_reducible refine NCall.isF 33 ?_);refine NCall.subE [0, 1, 2] (kE _ _) rfl (by decide) rfl rfl ?_)))<;>(conv=>whnf))|((with_reducible refine gX ?_);((with_reducible first|refine z3 ?_|refine z4 ?_|refine z8 ?_)))|(with_reducible first|refine z1 ?_|refine z2 ?_)|((with_reducible refine gR ?_);((refine z31 rfl ?_);intro K hK;(conv=>whnf)))|((with_reducible refine gF ?_);((refine z33 rfl ?_);intro K hK;(conv=>whnf)))|((intro _;skip)<;>(conv=>whnf))))
  all_goals exact ⟨rfl, MemFits.pre 1 rfl⟩
end Go.Proofs.YtaolcaggdddkpaaGreat
