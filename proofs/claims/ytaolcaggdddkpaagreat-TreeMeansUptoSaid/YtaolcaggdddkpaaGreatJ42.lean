/-
  Trees: what a case makes of a packet; Statements that draw their order: states told anew; orders that come to the same.
-/
import Derived.Test.YtaolcaggdddkpaaGreatJ24
import Derived.Test.YtaolcaggdddkpaaGreatJ7
namespace Go.Proofs.YtaolcaggdddkpaaGreat
open Go.Sx
set_option maxRecDepth 20000
set_option linter.unusedSimpArgs false
set_option linter.unusedVariables false
set_option maxHeartbeats 4000000
set_option linter.unusedVariables false
/-- One number, filled in. -/
def Tr.fil (a b : Int) : Int := if a = -1 then b else a
theorem Tr.sub_fil (t u : Po.S) : Tr.sub t u = ⟨Tr.fil u.port t.port, Tr.fil u.p0 t.p0, Tr.fil u.p1 t.p1, Tr.fil u.p2 t.p2, Tr.fil u.p3 t.p3⟩ := rfl
/-- A packet, filled in as far as one has come. -/
def Tr.cellsAt (q0 q1 q2 q3 q4 x1 x2 x3 x4 : Int) : Nat → List AV
  | 0 => [.int .i64 q0, .int .i64 x1, .int .i64 x2, .int .i64 x3, .int .i64 x4]
  | 1 => [.int .i64 q0, .int .i64 q1, .int .i64 x2, .int .i64 x3, .int .i64 x4]
  | 2 => [.int .i64 q0, .int .i64 q1, .int .i64 q2, .int .i64 x3, .int .i64 x4]
  | 3 => [.int .i64 q0, .int .i64 q1, .int .i64 q2, .int .i64 q3, .int .i64 x4]
  | _ => [.int .i64 q0, .int .i64 q1, .int .i64 q2, .int .i64 q3, .int .i64 q4]
theorem Tr.fil_yes {a b : Int} (h : a = -1) : Tr.fil a b = b := if_pos h
theorem Tr.fil_no {a b : Int} (h : ¬ a = -1) : Tr.fil a b = a := if_neg h
theorem run31_c (F : Heap) (c : Tr.C) (A : Value) (t : Po.S) (R : List Po.S) (hA : Po.SRow F A c.out) (hl : c.out.length ≤ 1000) (hnd : (c.out.map (Tr.sub t)).Nodup) (hris : Po.Rising R) (hmem : ∀ w, w ∈ c.out.map (Tr.sub t) ↔ w ∈ R) :
    NCall Tryz.prog 19 [.agg (Tr.cs c A), .int .i64 t.port, .agg [.int .i64 t.p0, .int .i64 t.p1, .int .i64 t.p2, .int .i64 t.p3]] [hpB F] fun r m => ∃ F' v, F.le F' ∧ Po.SRow F' v R ∧ r = .hs v R.length ∧ m = [hpB F'] := by
  refine sents_know (t := 56) ?_
  have hok := hA.ok
  have hLR : (c.out.map (Tr.sub t)).length = c.out.length := List.length_map _
  have hnx : ∀ i (h : i < c.out.length), Po.savs ((c.out.map (Tr.sub t)).take (i + 1)) = Po.savs ((c.out.map (Tr.sub t)).take i) ++ (Tr.sub t c.out[i]).av := fun i h => by
    rw [List.take_add_one, List.getElem?_map, List.getElem?_eq_getElem h, Po.savs_append]
    simp [Po.savs]
  generalize c.out.map (Tr.sub t) = L at *
  have hRl : ∀ L2 : List Po.S, L2.Perm L → L2.Pairwise (fun x y => ¬ Po.ahead y x) → L2 = R := fun L2 hp2 hs2 => Po.sorted_eq hp2 hnd hs2 hris hmem
  clear hnd hris hmem
  simp only [Tr.sub_fil] at hnx
  obtain ⟨⟨s0, s1, s2, s3, s4⟩, O⟩ := c
  obtain ⟨t0, t1, t2, t3, t4⟩ := t
  simp only [Tr.cs] at *
  refine ncall_of Tryz.func19 rfl (by decide) ?_
  (repeat' (first|(with_reducible first|(refine hK _ _ ?_;clear hK K)|(refine hK _ ?_;clear hK K))|((with_reducible refine gO ?_);(first|((with_reducible refine z25 ?_);intro K hK;(conv=>whnf))|(with_reducible refine z0 ?_)))|((first|((with_reducible refine gN ?_);(with_reducible refine NN.a5 ?_))|((with_reducible refine gH ?_);((with_reducible refine NH.mk ?s ?_);case s=>(and_intros<;>first|with_reducible rfl|omega))))<;>(conv=>whnf))|((with_reducible refine gX ?_);((with_reducible first|refine z3 ?_|refine z4 ?_|refine z5 ?_)))|(with_reducible first|refine z1 ?_|refine z2 ?_)|((with_reducible refine gF ?_);((refine z33 rfl ?_);intro K hK;(conv=>whnf)))|((intro _;skip)<;>(conv=>whnf))))
  refine st_auto (α := Value × Nat) (fun (w, i) => i ≤ O.length) (fun (w, i) => [.drop, .keep, .keep, .keep, .keep, .keep, .keep, .set (.sl 3 w i), .keep, .drop, .drop, .drop, .keep, .keep, .keep, .set (.int .i64 i), .drop, .drop, .drop, .drop, .drop, .drop, .drop, .drop, .drop, .drop, .drop, .drop, .drop, .drop, .drop, .drop, .drop, .drop, .drop, .drop, .drop, .drop, .drop, .drop, .drop, .drop, .drop, .drop, .keep, .keep, .keep])
    (fun (w, i) => [.keep, .keep, .keep, .set ⟨addrOf w, Po.savs (L.take i), .row w 56 5 i⟩]) (fun (w, i) => O.length - i) (.slice none 0 0, 0) (Nat.zero_le _) ?_ ?_ ?_
  · repeat (first|exact FitsSl.nil|refine FitsSl.any ?_|refine FitsSl.cons (Fit1.int (by first | rfl | omega)) ?_|refine FitsSl.cons (Fit1.same (by intro h; cases h) (by with_reducible rfl)) ?_|refine FitsSl.cons Fit1.nil_sl ?_)
  · exact (MemFits.nilRow _ 56 5).trans (MemFits.congr rfl)
  (intro ⟨w, i⟩ hi; intro K hK; (conv=>whnf); refine hK _ _ ?_; clear hK K)
  dsimp only
  have hi : i ≤ O.length := hi
  by_cases hlt : i < O.length
  · obtain ⟨g0, g1, g2, g3, g4⟩ := RowF.get5 (f0 := fun s : Po.S => .int .i64 s.port) (f1 := fun s => .int .i64 s.p0) (f2 := fun s => .int .i64 s.p1) (f3 := fun s => .int .i64 s.p2) (f4 := fun s => .int .i64 s.p3) hA hlt
    have hnx := hnx i hlt
    have hln : (Po.savs (L.take i)).length = i * 5 := by
      rw [Po.savs_len, List.length_take, Nat.min_eq_left (by omega)]
    clear hRl
    generalize O[i] = x at *
    generalize hA : Po.savs (L.take i) = sv at *
    obtain ⟨x0, x1, x2, x3, x4⟩ := x
    simp only [Po.S.av] at *
    by_cases hx0 : x0 = -1
    all_goals
      (repeat' (first|(with_reducible first|(refine hK _ _ ?_;clear hK K)|(refine hA ?_;clear hA hB A B)|(refine hB ?_;clear hA hB A B))|((with_reducible refine gO ?_);(first|((with_reducible refine z25 ?_);intro K hK;(conv=>whnf))|(with_reducible refine z0 ?_)))|((first|((with_reducible refine gI ?_);(first|((with_reducible refine NIf.decY ?s ?_);case s=>first|assumption|omega)|((with_reducible refine NIf.decN ?s ?_);case s=>assumption)))|((with_reducible refine gN ?_);(with_reducible first|refine NN.cast ?_|refine NN.a5 ?_|refine NN.keep ?_))|((with_reducible refine gH ?_);((with_reducible refine NH.mk ?s ?_);case s=>(and_intros<;>first|with_reducible rfl|((with_reducible refine gOnes ?_);rfl)|((with_reducible refine gLen ?_);rfl)|omega)))|(with_reducible refine NLd.of (by with_reducible assumption) ?_))<;>(conv=>whnf))|((with_reducible refine gX ?_);(first|(with_reducible first|refine z3 ?_|refine z4 ?_|refine z5 ?_|refine z6 ?_)|((with_reducible refine z29 ?_);intro A B hA hB;(conv=>whnf))))|(with_reducible first|refine z1 ?_|refine z2 ?_)|((intro _;skip)<;>(conv=>whnf))))
      rename_i b9
      refine st_auto (α := Nat) (fun j => j ≤ 4) (fun j => [.keep, .keep, .keep, .keep, .keep, .keep, .keep, .keep, .keep, .keep, .drop, .drop, .keep, .keep, .keep, .keep, .keep, .keep, .keep, .keep, .keep, .keep, .keep, .keep, .keep, .keep, .set (.int .i64 j), .drop, .drop, .drop, .drop, .drop, .drop, .drop, .drop, .drop, .drop, .drop, .drop, .keep, .keep, .keep, .keep, .keep, .keep, .keep, .keep]) (fun j => [.keep, .keep, .keep, .keep, .cells (Tr.cellsAt (Tr.fil x0 t0) (Tr.fil x1 t1) (Tr.fil x2 t2) (Tr.fil x3 t3) (Tr.fil x4 t4) x1 x2 x3 x4 j)]) (fun j => 4 - j) 0 (Nat.zero_le _) ?_ ?_ ?_
      · repeat (first|exact FitsSl.nil|refine FitsSl.any ?_|refine FitsSl.cons (Fit1.int (by first | rfl | omega)) ?_|refine FitsSl.cons (Fit1.bool rfl) ?_|refine FitsSl.cons (Fit1.same (by intro h; cases h) (by with_reducible rfl)) ?_)
      · exact MemFits.congr (by simp only [autoM, Tr.cellsAt]; first | (rw [Tr.fil_yes hx0]; done) | (rw [Tr.fil_no hx0]; done) | (rw [Tr.fil_yes hx0]; rfl) | (rw [Tr.fil_no hx0]; rfl))
      (intro j hj; intro K hK; (conv=>whnf); refine hK _ _ ?_; clear hK K)
      have hj : j ≤ 4 := hj
      have : j = 0 ∨ j = 1 ∨ j = 2 ∨ j = 3 ∨ j = 4 := by omega
      rcases this with rfl | rfl | rfl | rfl | rfl
      · dsimp only [Tr.cellsAt]
        by_cases hx : x1 = -1
        all_goals
          (repeat' (first|(with_reducible first|(refine hK _ _ ?_;clear hK K)|(refine hA ?_;clear hA hB A B)|(refine hB ?_;clear hA hB A B))|((with_reducible refine gO ?_);(first|((with_reducible refine z25 ?_);intro K hK;(conv=>whnf))|(with_reducible refine z0 ?_)))|((first|((with_reducible refine gV ?_);(((with_reducible refine NV.i64 ?s ?_);case s=>omega)))|((with_reducible refine gI ?_);(first|((with_reducible refine NIf.decY ?s ?_);case s=>first|assumption|omega)|((with_reducible refine NIf.decN ?s ?_);case s=>assumption)))|((with_reducible refine gN ?_);(with_reducible first|refine NN.cast ?_|refine NN.a1 ?_|refine NN.a2 ?_|refine NN.a3 ?_|refine NN.a5 ?_))|((with_reducible refine gH ?_);((with_reducible refine NH.mk ?s ?_);case s=>(and_intros<;>first|with_reducible rfl|((with_reducible refine gOnes ?_);rfl)|((with_reducible refine gLen ?_);rfl)|omega))))<;>(conv=>whnf))|((with_reducible refine gX ?_);(first|(with_reducible first|refine z3 ?_|refine z4 ?_|refine z5 ?_|refine z6 ?_)|((with_reducible refine z29 ?_);intro A B hA hB;(conv=>whnf))))|(with_reducible first|refine z1 ?_|refine z2 ?_|refine z9 ?_)))
          refine st_round 1 (by decide) (by decide) ?_ ?_
          · repeat (first|exact FitsSl.nil|refine FitsSl.any ?_|refine FitsSl.cons (Fit1.int (by first | rfl | omega)) ?_|refine FitsSl.cons (Fit1.bool rfl) ?_|refine FitsSl.cons (Fit1.same (by intro h; cases h) (by with_reducible rfl)) ?_)
          · exact MemFits.congr (by simp only [autoM, Tr.cellsAt]; first | (rw [Tr.fil_yes hx]; done) | (rw [Tr.fil_no hx]; done) | (rw [Tr.fil_yes hx]; rfl) | (rw [Tr.fil_no hx]; rfl))
      · dsimp only [Tr.cellsAt]
        by_cases hx : x2 = -1
        all_goals
          (repeat' (first|(with_reducible first|(refine hK _ _ ?_;clear hK K)|(refine hA ?_;clear hA hB A B)|(refine hB ?_;clear hA hB A B))|((with_reducible refine gO ?_);(first|((with_reducible refine z25 ?_);intro K hK;(conv=>whnf))|(with_reducible refine z0 ?_)))|((first|((with_reducible refine gV ?_);(((with_reducible refine NV.i64 ?s ?_);case s=>omega)))|((with_reducible refine gI ?_);(first|((with_reducible refine NIf.decY ?s ?_);case s=>first|assumption|omega)|((with_reducible refine NIf.decN ?s ?_);case s=>assumption)))|((with_reducible refine gN ?_);(with_reducible first|refine NN.cast ?_|refine NN.a1 ?_|refine NN.a2 ?_|refine NN.a3 ?_|refine NN.a5 ?_))|((with_reducible refine gH ?_);((with_reducible refine NH.mk ?s ?_);case s=>(and_intros<;>first|with_reducible rfl|((with_reducible refine gOnes ?_);rfl)|((with_reducible refine gLen ?_);rfl)|omega))))<;>(conv=>whnf))|((with_reducible refine gX ?_);(first|(with_reducible first|refine z3 ?_|refine z4 ?_|refine z5 ?_|refine z6 ?_)|((with_reducible refine z29 ?_);intro A B hA hB;(conv=>whnf))))|(with_reducible first|refine z1 ?_|refine z2 ?_|refine z9 ?_)))
          refine st_round 2 (by decide) (by decide) ?_ ?_
          · repeat (first|exact FitsSl.nil|refine FitsSl.any ?_|refine FitsSl.cons (Fit1.int (by first | rfl | omega)) ?_|refine FitsSl.cons (Fit1.bool rfl) ?_|refine FitsSl.cons (Fit1.same (by intro h; cases h) (by with_reducible rfl)) ?_)
          · exact MemFits.congr (by simp only [autoM, Tr.cellsAt]; first | (rw [Tr.fil_yes hx]; done) | (rw [Tr.fil_no hx]; done) | (rw [Tr.fil_yes hx]; rfl) | (rw [Tr.fil_no hx]; rfl))
      · dsimp only [Tr.cellsAt]
        by_cases hx : x3 = -1
        all_goals
          (repeat' (first|(with_reducible first|(refine hK _ _ ?_;clear hK K)|(refine hA ?_;clear hA hB A B)|(refine hB ?_;clear hA hB A B))|((with_reducible refine gO ?_);(first|((with_reducible refine z25 ?_);intro K hK;(conv=>whnf))|(with_reducible refine z0 ?_)))|((first|((with_reducible refine gV ?_);(((with_reducible refine NV.i64 ?s ?_);case s=>omega)))|((with_reducible refine gI ?_);(first|((with_reducible refine NIf.decY ?s ?_);case s=>first|assumption|omega)|((with_reducible refine NIf.decN ?s ?_);case s=>assumption)))|((with_reducible refine gN ?_);(with_reducible first|refine NN.cast ?_|refine NN.a1 ?_|refine NN.a2 ?_|refine NN.a3 ?_|refine NN.a5 ?_))|((with_reducible refine gH ?_);((with_reducible refine NH.mk ?s ?_);case s=>(and_intros<;>first|with_reducible rfl|((with_reducible refine gOnes ?_);rfl)|((with_reducible refine gLen ?_);rfl)|omega))))<;>(conv=>whnf))|((with_reducible refine gX ?_);(first|(with_reducible first|refine z3 ?_|refine z4 ?_|refine z5 ?_|refine z6 ?_)|((with_reducible refine z29 ?_);intro A B hA hB;(conv=>whnf))))|(with_reducible first|refine z1 ?_|refine z2 ?_|refine z9 ?_)))
          refine st_round 3 (by decide) (by decide) ?_ ?_
          · repeat (first|exact FitsSl.nil|refine FitsSl.any ?_|refine FitsSl.cons (Fit1.int (by first | rfl | omega)) ?_|refine FitsSl.cons (Fit1.bool rfl) ?_|refine FitsSl.cons (Fit1.same (by intro h; cases h) (by with_reducible rfl)) ?_)
          · exact MemFits.congr (by simp only [autoM, Tr.cellsAt]; first | (rw [Tr.fil_yes hx]; done) | (rw [Tr.fil_no hx]; done) | (rw [Tr.fil_yes hx]; rfl) | (rw [Tr.fil_no hx]; rfl))
      · dsimp only [Tr.cellsAt]
        by_cases hx : x4 = -1
        all_goals
          (repeat' (first|(with_reducible first|(refine hK _ _ ?_;clear hK K)|(refine hA ?_;clear hA hB A B)|(refine hB ?_;clear hA hB A B))|((with_reducible refine gO ?_);(first|((with_reducible refine z25 ?_);intro K hK;(conv=>whnf))|(with_reducible refine z0 ?_)))|((first|((with_reducible refine gV ?_);(((with_reducible refine NV.i64 ?s ?_);case s=>omega)))|((with_reducible refine gI ?_);(first|((with_reducible refine NIf.decY ?s ?_);case s=>first|assumption|omega)|((with_reducible refine NIf.decN ?s ?_);case s=>assumption)))|((with_reducible refine gN ?_);(with_reducible first|refine NN.cast ?_|refine NN.a1 ?_|refine NN.a2 ?_|refine NN.a3 ?_|refine NN.a5 ?_))|((with_reducible refine gH ?_);((with_reducible refine NH.mk ?s ?_);case s=>(and_intros<;>first|with_reducible rfl|((with_reducible refine gOnes ?_);rfl)|((with_reducible refine gLen ?_);rfl)|omega))))<;>(conv=>whnf))|((with_reducible refine gX ?_);(first|(with_reducible first|refine z3 ?_|refine z4 ?_|refine z5 ?_|refine z6 ?_)|((with_reducible refine z29 ?_);intro A B hA hB;(conv=>whnf))))|(with_reducible first|refine z1 ?_|refine z2 ?_|refine z9 ?_)))
          refine st_round 4 (by decide) (by decide) ?_ ?_
          · repeat (first|exact FitsSl.nil|refine FitsSl.any ?_|refine FitsSl.cons (Fit1.int (by first | rfl | omega)) ?_|refine FitsSl.cons (Fit1.bool rfl) ?_|refine FitsSl.cons (Fit1.same (by intro h; cases h) (by with_reducible rfl)) ?_)
          · exact MemFits.congr (by simp only [autoM, Tr.cellsAt]; first | (rw [Tr.fil_yes hx]; done) | (rw [Tr.fil_no hx]; done) | (rw [Tr.fil_yes hx]; rfl) | (rw [Tr.fil_no hx]; rfl))
      · dsimp only [Tr.cellsAt]
        (repeat' (first|(with_reducible first|(refine hK _ _ ?_;clear hK K)|(refine hB ?_;clear hA hB A B))|((with_reducible refine gO ?_);(first|((with_reducible refine z25 ?_);intro K hK;(conv=>whnf))|(with_reducible refine z0 ?_)))|((first|((with_reducible refine gV ?_);(((with_reducible refine NV.i64 ?s ?_);case s=>omega)))|((with_reducible refine gI ?_);(((with_reducible refine NIf.decN ?s ?_);case s=>omega)))|((with_reducible refine gH ?_);((with_reducible refine NH.mk ?s ?_);case s=>(and_intros<;>first|with_reducible rfl|((with_reducible refine gOnes ?_);rfl)|((with_reducible refine gLen ?_);rfl)|omega))))<;>(conv=>whnf))|((with_reducible refine gX ?_);(first|(with_reducible first|refine z3 ?_|refine z4 ?_|refine z7 ?_)|((with_reducible refine z29 ?_);intro A B hA hB;(conv=>whnf))))|(with_reducible first|refine z1 ?_|refine z2 ?_|refine z9 ?_|refine z10 ?_|refine z11 ?_|refine z19 ?_)|((intro _;skip)<;>(conv=>whnf))))
        all_goals
          rename_i v9
          refine st_round (v9, i + 1) hlt (by show O.length - (i + 1) < O.length - i; omega) ?_ (MemFits.pre 4 ?_)
          · repeat (first|exact FitsSl.nil|refine FitsSl.any ?_|refine FitsSl.cons (Fit1.int (by first | rfl | omega)) ?_|refine FitsSl.cons (Fit1.same (by intro h; cases h) (by with_reducible rfl)) ?_)
          · simp only [autoM, hnx]
            rfl
  · obtain rfl : i = O.length := by omega
    rw [← hLR, List.take_length]
    (repeat' (first|(with_reducible first|(refine hK _ _ ?_;clear hK K)|(refine hB ?_;clear hA hB A B)|(refine hK _ ?_;clear hK K))|((with_reducible refine gO ?_);(first|((with_reducible refine z25 ?_);intro K hK;(conv=>whnf))|(with_reducible refine z0 ?_)))|((first|((with_reducible refine gI ?_);(((with_reducible refine NIf.decN ?s ?_);case s=>omega)))|((with_reducible refine gC ?_);((with_reducible refine NCall.isF 41 ?_);refine NCall.subw [3] _ _ (sortf_c w 56 L (by omega)) rfl (by decide) rfl ?_; rintro _ _ ⟨rfl, L2, hp2, hs2, rfl⟩; refine ⟨Nat.le_of_ble_eq_true rfl, _, rfl, ?_⟩)))<;>(conv=>whnf))|((with_reducible refine gX ?_);(first|(with_reducible first|refine z3 ?_|refine z4 ?_|refine z7 ?_|refine z8 ?_)|((with_reducible refine z29 ?_);intro A B hA hB;(conv=>whnf))))|(with_reducible first|refine z1 ?_|refine z2 ?_|refine z10 ?_|refine z11 ?_|refine z19 ?_)|((with_reducible refine gR ?_);((refine z31 rfl ?_);intro K hK;(conv=>whnf)))))
    all_goals
      have e := hRl L2 hp2 hs2
      subst e
      exact ⟨w, by first | rfl | (rw [hp2.length_eq]; rfl), by rw [hp2.length_eq]; exact MemFits.pick [0, 3] (by decide) rfl⟩
end Go.Proofs.YtaolcaggdddkpaaGreat
namespace Go.Sx
set_option linter.unusedVariables false
section
variable {P : Program}
theorem FitsSl.refl : ∀ l : List AV, FitsSl l l
  | [] => trivial
  | x :: l => ⟨by
      by_cases h : x = .any
      · exact .inl h
      · exact .inr ⟨h, rfl⟩, FitsSl.refl l⟩
/-- Ahead of a statement that draws its order the state may be told anew. -/
theorem st_drawFits {id : Nat} {ops : Array Oper} {sl sl' : List AV} {m m' : List Blk} {Q : Post} (hs : FitsSl sl sl') (hm : MemFits m m') (h : codeK P (.region id ops true) sl' m' Q) : codeK P (.region id ops true) sl m Q := by
  simp only [codeK] at h ⊢
  unfold NDraw at h ⊢
  exact fun id w0 S a w hsim => h id w0 S a w (hsim.fits hs hm)
end
end Go.Sx
