/-
  Which packet stands first; The order of packets.
-/
import Derived.Test.YtpkjnmddembkjaaGreatDoorJ7
namespace Go.Proofs.YtpkjnmddembkjaaGreatDoor
open Go.Sx
set_option maxRecDepth 20000
set_option linter.unusedSimpArgs false
set_option linter.unusedVariables false
set_option maxHeartbeats 4000000
set_option linter.unusedVariables false
namespace Po
abbrev IRow (F : Heap) (v : Value) (l : List Int) : Prop := RowF F 1 (fun x us => us = [.int .i64 x]) v l
theorem IRow.at1 {F : Heap} {v : Value} {l : List Int} (h : IRow F v l) {i : Nat} {x : Int} (hx : l[i]? = some x) : F.c ((addrOf v).add i) (.int .i64 x) := by
  obtain ⟨us, rfl, _, h2⟩ := h.at_ i x hx
  rw [Nat.mul_one] at h2
  exact h2.1
def cmpL : List Int → List Int → Int
  | x :: a, y :: b => if cmpI x y ≠ 0 then cmpI x y else cmpL a b
  | _, _ => 0
theorem cmpL_nil (b : List Int) : cmpL [] b = 0 := by cases b <;> rfl
theorem cmpL_drop {a b : List Int} {i : Nat} {x y : Int} (hx : a[i]? = some x) (hy : b[i]? = some y) : cmpL (a.drop i) (b.drop i) = if cmpI x y ≠ 0 then cmpI x y else cmpL (a.drop (i + 1)) (b.drop (i + 1)) := by
  obtain ⟨h1, rfl⟩ := List.getElem?_eq_some_iff.1 hx
  obtain ⟨h2, rfl⟩ := List.getElem?_eq_some_iff.1 hy
  rw [List.drop_eq_getElem_cons h1, List.drop_eq_getElem_cons h2, cmpL]
theorem cmpS_L (x y : S) : cmpS x y = if cmpI x.port y.port ≠ 0 then cmpI x.port y.port else cmpL [x.p0, x.p1, x.p2, x.p3] [y.p0, y.p1, y.p2, y.p3] := by
  unfold cmpS
  simp only [cmpL]
  repeat' split
  all_goals first | rfl | omega
end Po
theorem cmpL_c (F : Heap) (v w : Value) (a b : List Int) (hv : Po.IRow F v a) (hw : Po.IRow F w b) (hl : a.length = b.length) (hn : a.length ≤ 1000) :
    NCall Tryz.prog 100 [.hs v a.length, .hs w b.length] [hpB F] fun r m => r = .int .i64 (Po.cmpL a b) ∧ m = [hpB F] := by
  refine NCall.fits (K := fun r m => r = .int .i64 (Po.cmpL a b) ∧ MemFits m [hpB F]) ?_ fun r m' h => ⟨r, _, rfl, h.2, h.1, rfl⟩
  have hok := hv.ok
  have hok2 := hw.ok
  refine ncall_of Tryz.func100 rfl (by decide) ?_
  (repeat' (first|(with_reducible first|(refine hK _ _ ?_;clear hK K)|(refine hK _ ?_;clear hK K))|((with_reducible refine gO ?_);(first|((with_reducible refine z25 ?_);intro K hK;(conv=>whnf))|(with_reducible refine z0 ?_)))|((((with_reducible refine gH ?_);((with_reducible refine NH.mk ?s ?_);case s=>(and_intros<;>omega))))<;>(conv=>whnf))|((with_reducible refine gX ?_);((with_reducible first|refine z3 ?_|refine z4 ?_|refine z5 ?_)))|(with_reducible first|refine z1 ?_|refine z2 ?_)|((with_reducible refine gF ?_);((refine z33 rfl ?_);intro K hK;(conv=>whnf)))))
  refine st_auto (α := Nat) (fun i => i ≤ a.length ∧ Po.cmpL a b = Po.cmpL (a.drop i) (b.drop i)) (fun i => [.keep, .keep, .keep, .keep, .set (.int .i64 0), .drop, .drop, .drop, .drop, .keep, .keep, .set (.int .i64 i), .drop, .drop, .drop, .drop, .drop, .drop, .drop, .drop, .drop, .drop, .drop, .drop, .drop, .drop, .drop, .drop, .drop, .drop, .drop, .keep, .keep, .keep, .keep, .keep]) (fun _ => []) (fun i => a.length - i) 0 ⟨Nat.zero_le _, rfl⟩ ?_ (MemFits.eq rfl) ?_
  · repeat (first | exact FitsSl.nil | refine FitsSl.any ?_ | refine FitsSl.cons (Fit1.int (by first | rfl | omega)) ?_ | refine FitsSl.cons (Fit1.bool rfl) ?_ | refine FitsSl.cons (Fit1.str rfl) ?_ | refine FitsSl.cons (Fit1.same (by intro h; cases h) (by with_reducible rfl)) ?_ | refine FitsSl.cons Fit1.nil_sl ?_ | refine FitsSl.cons (Fit1.hs rfl) ?_ | refine FitsSl.cons (Fit1.hp rfl rfl) ?_ | refine FitsSl.cons (Fit1.sl rfl) ?_ | refine FitsSl.cons (Fit1.ptr rfl rfl) ?_ | refine FitsSl.cons Fit1.raw ?_)
  (intro i ⟨hi, he⟩; intro K hK; (conv=>whnf); refine hK _ _ ?_; clear hK K)
  by_cases hlt : i < a.length
  · have hx : a[i]? = some a[i] := List.getElem?_eq_getElem hlt
    have hy : b[i]? = some (b[i]'(by omega)) := List.getElem?_eq_getElem (by omega)
    have c0 := hv.at1 hx
    have c1 := hw.at1 hy
    rw [Po.cmpL_drop hx hy] at he
    generalize a[i] = x at *
    generalize (b[i]'(by omega)) = y at *
    have cc := compare27_c x y
    generalize Po.cmpI x y = c at *
    by_cases hc : c = 0
    · rw [if_neg (by omega)] at he
      (repeat' (first|(with_reducible first|(refine hK _ _ ?_;clear hK K)|(refine hA ?_;clear hA hB A B)|(refine hB ?_;clear hA hB A B))|((with_reducible refine gO ?_);(first|((with_reducible refine z25 ?_);intro K hK;(conv=>whnf))|(with_reducible refine z0 ?_)))|((first|((with_reducible refine gV ?_);(((with_reducible refine NV.i64 ?s ?_);case s=>omega)))|((with_reducible refine gI ?_);(first|with_reducible refine NIf.not_ ?_|((with_reducible refine NIf.decY ?s ?_);case s=>first|assumption|omega)|((with_reducible refine NIf.decN ?s ?_);case s=>omega)))|((with_reducible refine gN ?_);(with_reducible first|refine NN.cast ?_|refine NN.a2 ?_))|((with_reducible refine gH ?_);((with_reducible refine NH.mk ?s ?_);case s=>(and_intros<;>omega)))|((with_reducible refine gC ?_);((with_reducible refine NCall.isF 99 ?_);refine NCall.pureE (cc) ?_))|(with_reducible refine NLd.of (by with_reducible assumption) ?_))<;>(conv=>whnf))|((with_reducible refine gX ?_);(first|(with_reducible first|refine z3 ?_|refine z4 ?_|refine z5 ?_|refine z6 ?_)|((with_reducible refine z29 ?_);intro A B hA hB;(conv=>whnf))))|(with_reducible first|refine z1 ?_|refine z2 ?_|refine z9 ?_)))
      all_goals first | (exfalso; omega) | skip
      all_goals
        refine st_round (i + 1) ⟨hlt, he⟩ (by omega) ?_ (MemFits.pre 1 rfl)
        repeat (first | exact FitsSl.nil | refine FitsSl.any ?_ | refine FitsSl.cons (Fit1.int (by first | rfl | omega)) ?_ | refine FitsSl.cons (Fit1.bool rfl) ?_ | refine FitsSl.cons (Fit1.str rfl) ?_ | refine FitsSl.cons (Fit1.same (by intro h; cases h) (by with_reducible rfl)) ?_ | refine FitsSl.cons Fit1.nil_sl ?_ | refine FitsSl.cons (Fit1.hs rfl) ?_ | refine FitsSl.cons (Fit1.hp rfl rfl) ?_ | refine FitsSl.cons (Fit1.sl rfl) ?_ | refine FitsSl.cons (Fit1.ptr rfl rfl) ?_ | refine FitsSl.cons Fit1.raw ?_)
    · rw [if_pos hc] at he
      rw [he]
      (repeat' (first|(with_reducible first|(refine hK _ _ ?_;clear hK K)|(refine hA ?_;clear hA hB A B)|(refine hB ?_;clear hA hB A B)|(refine hK _ ?_;clear hK K))|((with_reducible refine gO ?_);(first|((with_reducible refine z25 ?_);intro K hK;(conv=>whnf))|(with_reducible refine z0 ?_)))|((first|((with_reducible refine gI ?_);(first|with_reducible refine NIf.not_ ?_|((with_reducible refine NIf.decY ?s ?_);case s=>omega)|((with_reducible refine NIf.decN ?s ?_);case s=>first|assumption|omega)))|((with_reducible refine gN ?_);(with_reducible first|refine NN.cast ?_|refine NN.a2 ?_))|((with_reducible refine gH ?_);((with_reducible refine NH.mk ?s ?_);case s=>(and_intros<;>omega)))|((with_reducible refine gC ?_);((with_reducible refine NCall.isF 99 ?_);refine NCall.pureE (cc) ?_))|(with_reducible refine NLd.of (by with_reducible assumption) ?_))<;>(conv=>whnf))|((with_reducible refine gX ?_);(first|(with_reducible first|refine z3 ?_|refine z4 ?_|refine z5 ?_|refine z6 ?_|refine z8 ?_)|((with_reducible refine z29 ?_);intro A B hA hB;(conv=>whnf))))|(with_reducible first|refine z1 ?_|refine z2 ?_|refine z12 ?_|refine z13 ?_|refine z20 ?_)|((with_reducible refine gR ?_);((refine z31 rfl ?_);intro K hK;(conv=>whnf)))))
      all_goals first | (exfalso; omega) | exact ⟨rfl, MemFits.pre 1 rfl⟩
  · obtain rfl : i = a.length := by omega
    rw [List.drop_length, Po.cmpL_nil] at he
    rw [he]
    (repeat' (first|(with_reducible first|(refine hK _ _ ?_;clear hK K)|(refine hB ?_;clear hA hB A B)|(refine hK _ ?_;clear hK K))|((with_reducible refine gO ?_);(first|((with_reducible refine z25 ?_);intro K hK;(conv=>whnf))|(with_reducible refine z0 ?_)))|((first|((with_reducible refine gI ?_);(((with_reducible refine NIf.decN ?s ?_);case s=>omega)))|((with_reducible refine gH ?_);((with_reducible refine NH.mk ?s ?_);case s=>(and_intros<;>omega))))<;>(conv=>whnf))|((with_reducible refine gX ?_);(first|(with_reducible first|refine z3 ?_|refine z4 ?_|refine z6 ?_|refine z7 ?_|refine z8 ?_)|((with_reducible refine z29 ?_);intro A B hA hB;(conv=>whnf))))|(with_reducible first|refine z1 ?_|refine z2 ?_|refine z10 ?_|refine z11 ?_|refine z19 ?_)|((with_reducible refine gR ?_);((refine z31 rfl ?_);intro K hK;(conv=>whnf)))))
    all_goals first | (exfalso; omega) | exact ⟨rfl, MemFits.pre 1 rfl⟩
theorem or27_c (t : TypeId) (v : Value) (a b : Int) : NCall Tryz.prog 98 [.sl 0 v 2] [⟨addrOf v, [.int .i64 a, .int .i64 b], .row v t 1 2⟩] fun r m => r = .int .i64 (if a ≠ 0 then a else b) ∧ m = [⟨addrOf v, [.int .i64 a, .int .i64 b], .row v t 1 2⟩] := by
  refine ncall_of Tryz.func98 rfl (by decide) ?_
  by_cases ha : a = 0
  · rw [if_neg (by omega)]
    by_cases hb : b = 0
    · (repeat' (first|(with_reducible first|(refine hK _ _ ?_;clear hK K)|(refine hA ?_;clear hA hB A B)|(refine hB ?_;clear hA hB A B)|(refine hK _ ?_;clear hK K))|((with_reducible refine gO ?_);(first|((with_reducible refine z25 ?_);intro K hK;(conv=>whnf))|(with_reducible refine z0 ?_)))|((first|((with_reducible refine gV ?_);(((with_reducible refine NV.i64 ?s ?_);case s=>omega)))|((with_reducible refine gI ?_);(first|with_reducible refine NIf.not_ ?_|((with_reducible refine NIf.decY ?s ?_);case s=>first|assumption|omega)|((with_reducible refine NIf.decN ?s ?_);case s=>omega)))|((with_reducible refine gN ?_);(with_reducible first|refine NN.lit ?_|refine NN.a2 ?_|refine NN.keep ?_))|((with_reducible refine gH ?_);((with_reducible refine NH.mk ?s ?_);case s=>(and_intros<;>first|with_reducible rfl|omega))))<;>(conv=>whnf))|((with_reducible refine gX ?_);(first|(with_reducible refine st_rounds 4 ?_)|(with_reducible first|refine z3 ?_|refine z4 ?_|refine z5 ?_|refine z6 ?_|refine z7 ?_|refine z8 ?_)|((with_reducible refine z29 ?_);intro A B hA hB;(conv=>whnf))))|(with_reducible first|refine z1 ?_|refine z2 ?_|refine z9 ?_|refine z10 ?_|refine z11 ?_|refine z21 ?_|refine z22 ?_)|((with_reducible refine gR ?_);((refine z31 rfl ?_);intro K hK;(conv=>whnf)))|((with_reducible refine gF ?_);((refine z33 rfl ?_);intro K hK;(conv=>whnf)))))
      all_goals first | (exfalso; omega) | exact ⟨by rw [hb], rfl⟩
    · (repeat' (first|(with_reducible first|(refine hK _ _ ?_;clear hK K)|(refine hA ?_;clear hA hB A B)|(refine hB ?_;clear hA hB A B)|(refine hK _ ?_;clear hK K))|((with_reducible refine gO ?_);(first|((with_reducible refine z25 ?_);intro K hK;(conv=>whnf))|(with_reducible refine z0 ?_)))|((first|((with_reducible refine gV ?_);(((with_reducible refine NV.i64 ?s ?_);case s=>omega)))|((with_reducible refine gI ?_);(first|with_reducible refine NIf.not_ ?_|((with_reducible refine NIf.decY ?s ?_);case s=>first|assumption|omega)|((with_reducible refine NIf.decN ?s ?_);case s=>assumption)))|((with_reducible refine gN ?_);(with_reducible first|refine NN.lit ?_|refine NN.a2 ?_|refine NN.keep ?_))|((with_reducible refine gH ?_);((with_reducible refine NH.mk ?s ?_);case s=>(and_intros<;>first|with_reducible rfl|omega))))<;>(conv=>whnf))|((with_reducible refine gX ?_);(first|(with_reducible refine st_rounds 4 ?_)|(with_reducible first|refine z3 ?_|refine z4 ?_|refine z5 ?_|refine z6 ?_|refine z8 ?_)|((with_reducible refine z29 ?_);intro A B hA hB;(conv=>whnf))))|(with_reducible first|refine z1 ?_|refine z2 ?_|refine z9 ?_|refine z12 ?_|refine z13 ?_|refine z21 ?_|refine z23 ?_)|((with_reducible refine gR ?_);((refine z31 rfl ?_);intro K hK;(conv=>whnf)))|((with_reducible refine gF ?_);((refine z33 rfl ?_);intro K hK;(conv=>whnf)))))
      all_goals first | (exfalso; omega) | exact ⟨rfl, rfl⟩
  · rw [if_pos ha]
    (repeat' (first|(with_reducible first|(refine hK _ _ ?_;clear hK K)|(refine hA ?_;clear hA hB A B)|(refine hK _ ?_;clear hK K))|((with_reducible refine gO ?_);(first|((with_reducible refine z25 ?_);intro K hK;(conv=>whnf))|(with_reducible refine z0 ?_)))|((first|((with_reducible refine gI ?_);(first|with_reducible refine NIf.not_ ?_|((with_reducible refine NIf.decY ?s ?_);case s=>omega)|((with_reducible refine NIf.decN ?s ?_);case s=>assumption)))|((with_reducible refine gN ?_);(with_reducible first|refine NN.lit ?_|refine NN.a2 ?_))|((with_reducible refine gH ?_);((with_reducible refine NH.mk ?s ?_);case s=>(and_intros<;>first|with_reducible rfl|omega))))<;>(conv=>whnf))|((with_reducible refine gX ?_);(first|(with_reducible refine st_rounds 4 ?_)|(with_reducible first|refine z3 ?_|refine z4 ?_|refine z5 ?_|refine z6 ?_|refine z8 ?_)|((with_reducible refine z29 ?_);intro A B hA hB;(conv=>whnf))))|(with_reducible first|refine z1 ?_|refine z2 ?_|refine z12 ?_|refine z13 ?_|refine z23 ?_)|((with_reducible refine gR ?_);((refine z31 rfl ?_);intro K hK;(conv=>whnf)))|((with_reducible refine gF ?_);((refine z33 rfl ?_);intro K hK;(conv=>whnf)))))
    all_goals first | (exfalso; omega) | exact ⟨rfl, rfl⟩
end Go.Proofs.YtpkjnmddembkjaaGreatDoor
namespace Go.Proofs.YtpkjnmddembkjaaGreatDoor
open Go.Sx
set_option maxRecDepth 20000
set_option linter.unusedSimpArgs false
set_option linter.unusedVariables false
set_option maxHeartbeats 4000000
set_option linter.unusedVariables false
namespace Po
/-- A packet's fields behind its port, as a slice. -/
theorem part_row {F : Heap} {b : Nat} {x : S} (h : CellsF F ⟨b, 0, .none⟩ 0 x.vs) : IRow F (.slice (some ((⟨b, 0, .none⟩ : Addr).add 1)) 4 4) [x.p0, x.p1, x.p2, x.p3] := by
  refine ⟨⟨some ((⟨b, 0, .none⟩ : Addr).add 1), 4, rfl, Nat.le_refl _, fun e => by cases e⟩, fun i y hy => ?_⟩
  obtain ⟨_, h1, h2, h3, h4, _⟩ := h
  refine ⟨[.int .i64 y], rfl, rfl, ?_, trivial⟩
  match i, hy with
  | 0, hy => cases hy; exact h1
  | 1, hy => cases hy; exact h2
  | 2, hy => cases hy; exact h3
  | 3, hy => cases hy; exact h4
  | n + 4, hy => simp at hy
end Po
theorem order27_c (x y : Po.S) : NCall Tryz.prog 64 [.agg x.av, .agg y.av] [hpB noHeap] fun r _ => r = .int .i64 (Po.cmpS x y) := by
  refine NCall.fits (K := fun r m => r = .int .i64 (Po.cmpS x y)) ?_ fun r m' h => ⟨r, _, rfl, MemFits.eq rfl, h⟩
  have c0 := compare27_c x.port y.port
  have k1 : ∀ b1 b2 : Nat, NCall Tryz.prog 100 [.raw (.slice (some ((⟨b1, 0, none⟩ : Addr).add 1)) 4 4), .raw (.slice (some ((⟨b2, 0, none⟩ : Addr).add 1)) 4 4)] [hpB noHeap, ⟨⟨b1, 0, none⟩, x.av, .var 96⟩, ⟨⟨b2, 0, none⟩, y.av, .var 96⟩] fun r m => r = .int .i64 (Po.cmpL [x.p0, x.p1, x.p2, x.p3] [y.p0, y.p1, y.p2, y.p3]) ∧ m = [hpB noHeap, ⟨⟨b1, 0, none⟩, x.av, .var 96⟩, ⟨⟨b2, 0, none⟩, y.av, .var 96⟩] := fun b1 b2 =>
    NCall.keep (cmpL_c (addF (addF noHeap ⟨b1, 0, none⟩ (denL x.av)) ⟨b2, 0, none⟩ (denL y.av)) (.slice (some ((⟨b1, 0, none⟩ : Addr).add 1)) 4 4) (.slice (some ((⟨b2, 0, none⟩ : Addr).add 1)) 4 4) [x.p0, x.p1, x.p2, x.p3] [y.p0, y.p1, y.p2, y.p3]
      (RowF.mono addF.old (fun _ _ h => h) (Po.part_row addF.new)) (Po.part_row addF.new) rfl (by simp)) rfl (MemFits.freezeVar.trans MemFits.freezeVar) rfl fun r mL' h => ⟨r, rfl, h.1, rfl⟩
  rw [Po.cmpS_L]
  generalize Po.cmpL [x.p0, x.p1, x.p2, x.p3] [y.p0, y.p1, y.p2, y.p3] = c2 at *
  generalize Po.cmpI x.port y.port = c1 at *
  have co : ∀ b : Nat, NCall Tryz.prog 98 [.sl 0 (.slice (some ⟨b, 0, none⟩) 2 2) 2] [⟨⟨b, 0, none⟩, [.int .i64 c1, .int .i64 c2], .row (.slice (some ⟨b, 0, none⟩) 2 2) 3 1 2⟩] fun r m => r = .int .i64 (if c1 ≠ 0 then c1 else c2) ∧ m = [⟨⟨b, 0, none⟩, [.int .i64 c1, .int .i64 c2], .row (.slice (some ⟨b, 0, none⟩) 2 2) 3 1 2⟩] := fun b => or27_c _ _ c1 c2
  refine ncall_of Tryz.func64 rfl (by decide) ?_
  obtain ⟨a0, a, b, c, d⟩ := x
  obtain ⟨a0', a', b', c', d'⟩ := y
  unfold Po.S.av at *
  simp only at *
  (repeat' (first|(with_reducible first|(refine hK _ _ ?_;clear hK K)|(refine hK _ ?_;clear hK K))|((with_reducible refine gO ?_);(first|((with_reducible refine z25 ?_);intro K hK;(conv=>whnf))|(with_reducible refine z0 ?_)))|((first|((with_reducible refine gN ?_);(with_reducible refine NN.a5 ?_))|((with_reducible refine gH ?_);((with_reducible refine NH.mk ?s ?_);case s=>(and_intros<;>first|((with_reducible refine gLen ?_);rfl)|((with_reducible refine gKept ?_);exact rfl)|omega|rfl)))|((with_reducible refine gC ?_);(first|((with_reducible refine NCall.isF 99 ?_);refine NCall.pureE (c0) ?_)|((with_reducible refine NCall.isF 100 ?_);refine NCall.subE [0, 1, 2] (k1 _ _) rfl (by decide) rfl rfl ?_)|((with_reducible refine NCall.isF 98 ?_);refine NCall.subE [3] (co _) rfl (by decide) rfl rfl ?_))))<;>(conv=>whnf))|((with_reducible refine gNRK ?_);((with_reducible refine st_ordSout ?_)))|((with_reducible refine gNOK ?_);(first|(refine st_ordK1 rfl (by kernel_rfl) rfl ?_; intro K hK; (conv=>whnf))|(refine st_ordK0 rfl (by kernel_rfl) ?_)|(refine st_ordKA rfl rfl (by kernel_rfl) (by intro h; cases h) ?_)))|((with_reducible refine gNEK ?_);(first|(refine st_eachK ?_ ?_; (intro K hK; (conv=>whnf)))|exact st_eachK0))|((with_reducible refine gX ?_);(first|(refine st_orderS [] rfl rfl (by kernel_rfl) _ rfl ?_)|(with_reducible first|refine z3 ?_|refine z4 ?_|refine z8 ?_)))|(with_reducible first|refine z1 ?_|refine z2 ?_)|((with_reducible refine gR ?_);((refine z31 rfl ?_);intro K hK;(conv=>whnf)))|((with_reducible refine gF ?_);((refine z33 rfl ?_);intro K hK;(conv=>whnf)))|((intro _;skip)<;>(conv=>whnf))))
  all_goals rfl
/-- What turned nothing has laid some blocks, and drawn some answers. -/
theorem Fr.grow {w w' : World} (h : Fr (fun _ => False) w w') (hd : w.drawn ≤ w'.drawn) : ∃ (q : Nat) (os : Array Obj), w' = Go.Sort.grow (w.drewN q) os := by
  obtain ⟨hp, tp, dr, os, out⟩ := w
  obtain ⟨hp', tp', dr', os', out'⟩ := w'
  obtain ⟨h1, h2, h3, h4, h5⟩ := h
  simp only at h1 h2 h3 h4 h5 hd
  subst h1 h2 h3
  refine ⟨dr' - dr, hp'.extract hp.size hp'.size, ?_⟩
  have e : hp ++ hp'.extract hp.size hp'.size = hp' := by
    apply Array.ext
    · simp; omega
    · intro i hi hj
      by_cases hlt : i < hp.size
      · rw [Array.getElem_append_left hlt]
        have := h5 i hlt (fun h => h)
        rw [Array.getElem?_eq_getElem hj, Array.getElem?_eq_getElem hlt] at this
        injection this with this
        exact this.symm
      · rw [Array.getElem_append_right (by omega)]
        simp only [Array.getElem_extract]
        congr 1
        omega
  unfold Go.Sort.grow World.drewN
  simp only [World.mk.injEq]
  exact ⟨e.symm, trivial, by omega, trivial, trivial⟩
theorem memOk_none (W : World) : MemOk [hpB noHeap] W := ⟨fun k hk => by
  rw [List.mem_singleton] at hk
  subst hk
  exact ⟨rfl, fun a u h => h.elim, fun b o h => h.elim⟩, by simp⟩
theorem order27_x (x y : Po.S) (W : World) : Calls Tryz.prog 64 #[.agg x.vs.toArray, .agg y.vs.toArray] W fun e w' => e = .returned (.int .i64 (Po.cmpS x y)) ∧ ∃ (q : Nat) (os : Array Obj), w' = Go.Sort.grow (W.drewN q) os := by
  have h := (NCall_iff.1 (order27_c x y)).2 W (memOk_none W)
  have h := Calls_up h fun e w' ⟨r, m', _, he, _⟩ => ⟨_, he⟩
  refine h.mono fun e w' ⟨⟨r, m', hr, he, _, hf, _⟩, hd⟩ => ?_
  subst hr
  refine ⟨he, Fr.grow ⟨hf.os, hf.tape, hf.output, hf.size, fun k hk _ => hf.block k hk fun ⟨k', h1, h2, _⟩ => ?_⟩ hd⟩
  rw [List.mem_singleton] at h1
  subst h1
  cases h2
end Go.Proofs.YtpkjnmddembkjaaGreatDoor
