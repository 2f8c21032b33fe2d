/-
  Networks that may be, by the document; Networks that may be, by the document: its Right.
-/
import Derived.Test.YtpkjnmddembkjaaGreatDoorJ22
namespace Go.Proofs.YtpkjnmddembkjaaGreatDoor
open Go.Sx
set_option maxRecDepth 20000
set_option linter.unusedSimpArgs false
set_option linter.unusedVariables false
set_option maxHeartbeats 4000000
set_option linter.unusedVariables false
namespace Tp
theorem lk_count (q : Pl) (x : Lk) : (lkP x).count q = (if x.a = q.1 ∧ x.pa = q.2 then 1 else 0) + (if x.b = q.1 ∧ x.pb = q.2 then 1 else 0) := by
  obtain ⟨a, b⟩ := q
  unfold lkP
  simp only [List.count_cons, List.count_nil, Prod.mk.injEq, beq_iff_eq, Nat.zero_add]
  omega
theorem hs_count (q : Pl) (x : Hs) : [hsP x].count q = if x.at_ = q.1 ∧ x.port = q.2 then 1 else 0 := by
  obtain ⟨a, b⟩ := q
  unfold hsP
  simp only [List.count_cons, List.count_nil, Prod.mk.injEq, beq_iff_eq, Nat.zero_add]
end Tp
theorem port17_c (F : Heap) (t : Tp.T) (lv hv : Value) (ht : Tp.At F t lv hv) (hl : t.ls.length ≤ 1000) (hh : t.hs.length ≤ 1000) (sw p : Int) : NCall Tryz.prog 77 [.agg (Tp.cs t lv hv), .int .i64 sw, .int .i64 p] [hpB F] fun r m => r = .bool (Tp.port t (sw, p)) ∧ m = [hpB F] := by
  refine NCall.fits (K := fun r m => r = .bool (Tp.port t (sw, p)) ∧ MemFits m [hpB F]) ?_ fun r m' ⟨h1, h3⟩ => ⟨r, _, rfl, h3, h1, rfl⟩
  have hlo := ht.l.ok
  have hho := ht.h.ok
  have hpt : Tp.port t (sw, p) = (decide ((0 ≤ sw ∧ sw < t.n) ∧ 0 ≤ p ∧ p < 8) && decide ((Tp.places t).count (sw, p) = 1)) := rfl
  generalize Tp.port t (sw, p) = R at *
  obtain ⟨n, ls, hs⟩ := t
  unfold Tp.cs
  simp only at *
  have hpl : (Tp.places ⟨n, ls, hs⟩) = ls.flatMap Tp.lkP ++ hs.map Tp.hsP := rfl
  rw [hpl, List.count_append] at hpt
  clear hpl
  refine ncall_of Tryz.func77 rfl (by decide) ?_
  (repeat' (first|(with_reducible first|(refine hK _ _ ?_;clear hK K)|(refine hK _ ?_;clear hK K))|((with_reducible refine gO ?_);(first|((with_reducible refine z25 ?_);intro K hK;(conv=>whnf))|(with_reducible refine z0 ?_)))|((with_reducible refine gX ?_);((with_reducible first|refine z3 ?_|refine z4 ?_|refine z5 ?_)))|(with_reducible first|refine z1 ?_|refine z2 ?_)|((with_reducible refine gF ?_);((refine z33 rfl ?_);intro K hK;(conv=>whnf)))|((intro _;skip)<;>(conv=>whnf))))
  refine st_auto (α := Nat × Nat) (fun (i, c) => i ≤ ls.length ∧ c ≤ 2 * i ∧ c = ((ls.take i).flatMap Tp.lkP).count (sw, p)) (fun (i, c) => [.keep, .keep, .keep, .keep, .keep, .keep, .keep, .set (.int .i64 c), .set (.int .i64 i), .drop, .keep, .drop, .drop, .drop, .drop, .drop, .drop, .drop, .drop, .drop, .drop, .drop, .drop, .drop, .drop, .drop, .drop, .drop, .drop, .drop, .drop, .drop, .drop, .drop, .drop, .drop, .drop, .drop, .drop, .drop, .drop, .drop, .drop, .drop, .drop, .drop, .drop, .keep, .keep, .keep, .keep, .keep, .keep, .keep, .keep, .keep, .keep, .keep, .keep, .keep, .keep, .keep, .keep, .keep, .keep, .keep, .keep, .keep, .keep, .keep, .keep, .keep, .keep, .keep, .keep, .keep, .keep, .keep, .keep, .keep, .keep, .keep, .keep, .keep, .keep, .keep, .keep, .keep, .keep, .keep, .keep, .keep, .keep, .keep]) (fun _ => []) (fun (i, c) => ls.length - i) (0, 0) ⟨Nat.zero_le _, Nat.zero_le _, rfl⟩ ?_ (MemFits.eq rfl) ?_
  · repeat (first | exact FitsSl.nil | refine FitsSl.any ?_ | refine FitsSl.cons (Fit1.int (by first | rfl | omega)) ?_ | refine FitsSl.cons (Fit1.bool rfl) ?_ | refine FitsSl.cons (Fit1.str rfl) ?_ | refine FitsSl.cons (Fit1.same (by intro h; cases h) (by with_reducible rfl)) ?_ | refine FitsSl.cons Fit1.nil_sl ?_ | refine FitsSl.cons (Fit1.hs rfl) ?_ | refine FitsSl.cons (Fit1.hp rfl rfl) ?_ | refine FitsSl.cons (Fit1.sl rfl) ?_ | refine FitsSl.cons (Fit1.ptr rfl rfl) ?_ | refine FitsSl.cons Fit1.raw ?_)
  (intro ⟨i, c⟩ ⟨hi, hc2, hc⟩; intro K hK; (conv=>whnf); refine hK _ _ ?_; clear hK K)
  dsimp only
  by_cases hlt : i < ls.length
  · have hx : ls[i]? = some ls[i] := List.getElem?_eq_getElem hlt
    obtain ⟨c0, c1, c2, c3, c4, c5⟩ := ht.l.get hx
    have hnx : ((ls.take (i + 1)).flatMap Tp.lkP).count (sw, p) = c + (Tp.lkP ls[i]).count (sw, p) := by rw [List.take_add_one, hx, List.flatMap_append, List.count_append, hc]; simp
    rw [Tp.lk_count] at hnx
    generalize ls[i] = x at *
    obtain ⟨a, pa, b, pb, least, most⟩ := x
    dsimp only at c0 c1 c2 c3 c4 c5 hnx
    by_cases h1 : a = sw ∧ pa = p <;> by_cases h2 : b = sw ∧ pb = p
    all_goals
      first | rw [if_pos h1] at hnx | rw [if_neg h1] at hnx
      first | rw [if_pos h2] at hnx | rw [if_neg h2] at hnx
      (repeat' (first|(with_reducible first|(refine hK _ _ ?_;clear hK K)|(refine hA ?_;clear hA hB A B)|(refine hB ?_;clear hA hB A B))|((with_reducible refine gO ?_);(first|((with_reducible first|refine z25 ?_|refine z26 ?_);intro K hK;(conv=>whnf))|(with_reducible refine z0 ?_)))|((first|((with_reducible refine gV ?_);(((with_reducible refine NV.i64 ?s ?_);case s=>omega)))|((with_reducible refine gI ?_);(first|((with_reducible refine NIf.decY ?s ?_);case s=>first|assumption|omega)|((with_reducible refine NIf.decN ?s ?_);case s=>first|assumption|omega)|((with_reducible refine NIf.no ?s ?_);case s=>rfl)|(with_reducible refine NIf.dec (fun _=>?_) (fun _=>?_))))|((with_reducible refine gN ?_);(with_reducible first|refine NN.cast ?_|refine NN.a5 ?_|refine NN.keep ?_))|((with_reducible refine gH ?_);((with_reducible refine NH.mk ?s ?_);case s=>(and_intros<;>first|with_reducible rfl|((with_reducible refine gOnes ?_);rfl)|((with_reducible refine gLen ?_);rfl)|omega)))|(with_reducible refine NLd.of (by with_reducible assumption) ?_))<;>(conv=>whnf))|((with_reducible refine gX ?_);(first|(with_reducible first|refine z3 ?_|refine z4 ?_|refine z5 ?_|refine z6 ?_)|((with_reducible refine z29 ?_);intro A B hA hB;(conv=>whnf))))|(with_reducible first|refine z1 ?_|refine z2 ?_|refine z9 ?_)|((intro _;skip)<;>(conv=>whnf))))
    all_goals first
      | (exfalso; omega)
      | refine st_round (i + 1, c) ⟨hlt, by omega, hnx.symm⟩ (show ls.length - (i + 1) < ls.length - i by omega) ?_ (MemFits.pre 2 rfl)
      | refine st_round (i + 1, c + 1) ⟨hlt, by omega, hnx.symm⟩ (show ls.length - (i + 1) < ls.length - i by omega) ?_ (MemFits.pre 2 rfl)
      | refine st_round (i + 1, c + (1 + 1)) ⟨hlt, by omega, hnx.symm⟩ (show ls.length - (i + 1) < ls.length - i by omega) ?_ (MemFits.pre 2 rfl)
    all_goals repeat (first | exact FitsSl.nil | refine FitsSl.any ?_ | refine FitsSl.cons (Fit1.int (by first | rfl | omega)) ?_ | refine FitsSl.cons (Fit1.bool rfl) ?_ | refine FitsSl.cons (Fit1.str rfl) ?_ | refine FitsSl.cons (Fit1.same (by intro h; cases h) (by with_reducible rfl)) ?_ | refine FitsSl.cons Fit1.nil_sl ?_ | refine FitsSl.cons (Fit1.hs rfl) ?_ | refine FitsSl.cons (Fit1.hp rfl rfl) ?_ | refine FitsSl.cons (Fit1.sl rfl) ?_ | refine FitsSl.cons (Fit1.ptr rfl rfl) ?_ | refine FitsSl.cons Fit1.raw ?_)
  have hkl : i = ls.length := by omega
  subst hkl
  rw [List.take_length] at hc
  rw [← hc] at hpt
  clear hc
  (repeat' (first|(with_reducible first|(refine hK _ _ ?_;clear hK K)|(refine hB ?_;clear hA hB A B))|((with_reducible refine gO ?_);(first|((with_reducible refine z25 ?_);intro K hK;(conv=>whnf))|(with_reducible refine z0 ?_)))|((first|((with_reducible refine gI ?_);(((with_reducible refine NIf.decN ?s ?_);case s=>omega)))|((with_reducible refine gN ?_);(with_reducible refine NN.a5 ?_))|((with_reducible refine gH ?_);((with_reducible refine NH.mk ?s ?_);case s=>(and_intros<;>first|with_reducible rfl|omega))))<;>(conv=>whnf))|((with_reducible refine gX ?_);(first|(with_reducible first|refine z3 ?_|refine z4 ?_|refine z5 ?_|refine z7 ?_)|((with_reducible refine z29 ?_);intro A B hA hB;(conv=>whnf))))|(with_reducible first|refine z1 ?_|refine z2 ?_|refine z10 ?_|refine z11 ?_|refine z19 ?_)))
  refine st_auto (α := Nat × Nat) (fun (i, e) => i ≤ hs.length ∧ e ≤ c + i ∧ e = c + ((hs.take i).map Tp.hsP).count (sw, p)) (fun (i, e) => [.keep, .keep, .keep, .keep, .keep, .keep, .keep, .set (.int .i64 e), .keep, .keep, .set (.int .i64 i), .keep, .keep, .keep, .keep, .keep, .keep, .keep, .keep, .keep, .keep, .keep, .keep, .keep, .keep, .keep, .keep, .keep, .keep, .keep, .keep, .keep, .keep, .keep, .keep, .keep, .keep, .keep, .keep, .keep, .keep, .keep, .keep, .keep, .keep, .keep, .keep, .drop, .drop, .drop, .drop, .drop, .drop, .drop, .drop, .drop, .drop, .drop, .drop, .drop, .drop, .drop, .drop, .drop, .drop, .drop, .drop, .drop, .drop, .drop, .drop, .drop, .drop, .drop, .keep, .keep, .keep, .keep, .keep, .keep, .keep, .keep, .keep, .keep, .keep, .keep, .keep, .keep, .keep, .keep, .keep, .keep, .keep, .keep]) (fun _ => []) (fun (i, e) => hs.length - i) (0, c) ⟨Nat.zero_le _, Nat.le_refl _, rfl⟩ ?_ (MemFits.eq rfl) ?_
  · repeat (first | exact FitsSl.nil | refine FitsSl.any ?_ | refine FitsSl.cons (Fit1.int (by first | rfl | omega)) ?_ | refine FitsSl.cons (Fit1.bool rfl) ?_ | refine FitsSl.cons (Fit1.str rfl) ?_ | refine FitsSl.cons (Fit1.same (by intro h; cases h) (by with_reducible rfl)) ?_ | refine FitsSl.cons Fit1.nil_sl ?_ | refine FitsSl.cons (Fit1.hs rfl) ?_ | refine FitsSl.cons (Fit1.hp rfl rfl) ?_ | refine FitsSl.cons (Fit1.sl rfl) ?_ | refine FitsSl.cons (Fit1.ptr rfl rfl) ?_ | refine FitsSl.cons Fit1.raw ?_)
  (intro ⟨i, e⟩ ⟨hi, hc3, he⟩; intro K hK; (conv=>whnf); refine hK _ _ ?_; clear hK K)
  dsimp only
  by_cases hlt : i < hs.length
  · have hx : hs[i]? = some hs[i] := List.getElem?_eq_getElem hlt
    obtain ⟨c0, c1⟩ := ht.h.get hx
    have hnx : c + ((hs.take (i + 1)).map Tp.hsP).count (sw, p) = e + [Tp.hsP hs[i]].count (sw, p) := by rw [List.take_add_one, hx, List.map_append, List.count_append, he, Nat.add_assoc]; rfl
    rw [Tp.hs_count] at hnx
    generalize hs[i] = x at *
    obtain ⟨a, b⟩ := x
    dsimp only at c0 c1 hnx
    by_cases h1 : a = sw ∧ b = p
    all_goals
      first | rw [if_pos h1] at hnx | rw [if_neg h1] at hnx
      (repeat' (first|(with_reducible first|(refine hK _ _ ?_;clear hK K)|(refine hA ?_;clear hA hB A B)|(refine hB ?_;clear hA hB A B))|((with_reducible refine gO ?_);(first|((with_reducible first|refine z25 ?_|refine z26 ?_);intro K hK;(conv=>whnf))|(with_reducible refine z0 ?_)))|((first|((with_reducible refine gV ?_);(((with_reducible refine NV.i64 ?s ?_);case s=>omega)))|((with_reducible refine gI ?_);(first|((with_reducible refine NIf.decY ?s ?_);case s=>first|assumption|omega)|((with_reducible refine NIf.decN ?s ?_);case s=>first|assumption|omega)|((with_reducible refine NIf.no ?s ?_);case s=>rfl)|(with_reducible refine NIf.dec (fun _=>?_) (fun _=>?_))))|((with_reducible refine gN ?_);(with_reducible first|refine NN.cast ?_|refine NN.a5 ?_|refine NN.a6 ?_|refine NN.keep ?_))|((with_reducible refine gH ?_);((with_reducible refine NH.mk ?s ?_);case s=>(and_intros<;>first|with_reducible rfl|omega)))|(with_reducible refine NLd.of (by with_reducible assumption) ?_))<;>(conv=>whnf))|((with_reducible refine gX ?_);(first|(with_reducible first|refine z3 ?_|refine z4 ?_|refine z5 ?_|refine z6 ?_)|((with_reducible refine z29 ?_);intro A B hA hB;(conv=>whnf))))|(with_reducible first|refine z1 ?_|refine z2 ?_|refine z9 ?_)))
    all_goals first
      | (exfalso; omega)
      | refine st_round (i + 1, e) ⟨hlt, by omega, hnx.symm⟩ (show hs.length - (i + 1) < hs.length - i by omega) ?_ (MemFits.pre 2 rfl)
      | refine st_round (i + 1, e + 1) ⟨hlt, by omega, hnx.symm⟩ (show hs.length - (i + 1) < hs.length - i by omega) ?_ (MemFits.pre 2 rfl)
    all_goals repeat (first | exact FitsSl.nil | refine FitsSl.any ?_ | refine FitsSl.cons (Fit1.int (by first | rfl | omega)) ?_ | refine FitsSl.cons (Fit1.bool rfl) ?_ | refine FitsSl.cons (Fit1.str rfl) ?_ | refine FitsSl.cons (Fit1.same (by intro h; cases h) (by with_reducible rfl)) ?_ | refine FitsSl.cons Fit1.nil_sl ?_ | refine FitsSl.cons (Fit1.hs rfl) ?_ | refine FitsSl.cons (Fit1.hp rfl rfl) ?_ | refine FitsSl.cons (Fit1.sl rfl) ?_ | refine FitsSl.cons (Fit1.ptr rfl rfl) ?_ | refine FitsSl.cons Fit1.raw ?_)
  have hkl : i = hs.length := by omega
  subst hkl
  rw [List.take_length] at he
  rw [← he] at hpt
  (repeat' (first|(with_reducible first|(refine hK _ _ ?_;clear hK K)|(refine hB ?_;clear hA hB A B)|(refine hK _ ?_;clear hK K))|((with_reducible refine gO ?_);(first|((with_reducible first|refine z25 ?_|refine z26 ?_);intro K hK;(conv=>whnf))|(with_reducible refine z0 ?_)))|((first|((with_reducible refine gI ?_);(first|((with_reducible refine NIf.decY ?s ?_);case s=>assumption)|((with_reducible refine NIf.decN ?s ?_);case s=>first|assumption|omega)|((with_reducible refine NIf.no ?s ?_);case s=>rfl)|(with_reducible refine NIf.dec (fun _=>?_) (fun _=>?_))))|((with_reducible refine gN ?_);(with_reducible refine NN.a5 ?_))|((with_reducible refine gH ?_);((with_reducible refine NH.mk ?s ?_);case s=>(and_intros<;>first|with_reducible rfl|omega))))<;>(conv=>whnf))|((with_reducible refine gX ?_);(first|(with_reducible first|refine z3 ?_|refine z4 ?_|refine z7 ?_|refine z8 ?_)|((with_reducible refine z29 ?_);intro A B hA hB;(conv=>whnf))))|(with_reducible first|refine z1 ?_|refine z2 ?_|refine z10 ?_|refine z11 ?_|refine z19 ?_)|((with_reducible refine gR ?_);((refine z31 rfl ?_);intro K hK;(conv=>whnf)))))
  all_goals
    refine ⟨?_, MemFits.pre 1 rfl⟩
    congr 1
    rw [hpt, Bool.eq_iff_iff]
    simp only [Bool.and_eq_true, decide_eq_true_eq, Bool.false_eq_true, false_iff]
    omega
end Go.Proofs.YtpkjnmddembkjaaGreatDoor
namespace Go.Proofs.YtpkjnmddembkjaaGreatDoor
open Go.Sx
set_option maxRecDepth 20000
set_option linter.unusedSimpArgs false
set_option linter.unusedVariables false
set_option maxHeartbeats 4000000
set_option linter.unusedVariables false
theorem reftopo17_c (F : Heap) (t : Tp.T) (lv hv : Value) (ht : Tp.At F t lv hv) (hl : t.ls.length ≤ 1000) (hh : t.hs.length ≤ 1000) : NCall Tryz.prog 39 [.agg (Tp.cs t lv hv)] [hpB F] fun r m => r = .bool (Tp.right t) ∧ m = [hpB F] := by
  refine NCall.fits (K := fun r m => r = .bool (Tp.right t) ∧ MemFits m [hpB F]) ?_ fun r m' ⟨h1, h3⟩ => ⟨r, _, rfl, h3, h1, rfl⟩
  have hlo := ht.l.ok
  have hho := ht.h.ok
  have cp := fun sw p => port17_c F t lv hv ht hl hh sw p
  have hbd : Tp.bounds t = decide ((1 ≤ t.n ∧ t.n ≤ 8) ∧ t.ls.length ≤ 24 ∧ t.hs.length ≤ 8) := rfl
  have hR : Tp.right t = (Tp.bounds t && (t.ls.all (fun x => Tp.lkOk x && (Tp.port t (x.a, x.pa) && Tp.port t (x.b, x.pb))) && t.hs.all (fun h => Tp.port t (h.at_, h.port)))) := by
    have hs : t.ls.all (fun x => Tp.lkOk x && (Tp.port t (x.a, x.pa) && Tp.port t (x.b, x.pb))) = (t.ls.all Tp.lkOk && t.ls.all (fun x => Tp.port t (x.a, x.pa) && Tp.port t (x.b, x.pb))) := by
      generalize t.ls = l
      generalize Tp.port t = q
      induction l with
      | nil => rfl
      | cons x l ih => rw [List.all_cons, List.all_cons, List.all_cons, ih]; ac_rfl
    rw [hs]
    unfold Tp.right
    congr 1
    cases hk : t.ls.all Tp.lkOk with
    | false => simp
    | true => rw [← Tp.port_all t hk]; simp
  generalize Tp.right t = R at *
  generalize Tp.port t = P at *
  generalize Tp.bounds t = B at *
  obtain ⟨n, ls, hs⟩ := t
  unfold Tp.cs at *
  simp only at *
  have hno1 := fun i x (hx : ls[i]? = some x) h => Tp.all_not (q := fun x => Tp.lkOk x && (P (x.a, x.pa) && P (x.b, x.pb))) hx h
  have hnx1 := fun i x (hx : ls[i]? = some x) => Tp.all_next (q := fun x => Tp.lkOk x && (P (x.a, x.pa) && P (x.b, x.pb))) hx
  generalize hA : (fun x : Tp.Lk => Tp.lkOk x && (P (x.a, x.pa) && P (x.b, x.pb))) = A at *
  refine ncall_of Tryz.func39 rfl (by decide) ?_
  cases B with
  | false =>
    have hbd := of_decide_eq_false hbd.symm
    have hR : R = false := hR
    clear ht cp hA hno1 hnx1
    generalize ls.length = a at *
    generalize hs.length = b at *
    (repeat' (first|(with_reducible first|(refine hK _ _ ?_;clear hK K)|(refine hA ?_;clear hA hB A B)|(refine hK _ ?_;clear hK K))|((with_reducible refine gO ?_);(first|((with_reducible first|refine z25 ?_|refine z26 ?_);intro K hK;(conv=>whnf))|(with_reducible refine z0 ?_)))|((first|((with_reducible refine gI ?_);(first|((with_reducible refine NIf.decY ?s ?_);case s=>first|assumption|omega)|((with_reducible refine NIf.decN ?s ?_);case s=>assumption)|((with_reducible refine NIf.yes ?s ?_);case s=>rfl)|(with_reducible refine NIf.dec (fun _=>?_) (fun _=>?_))))|((with_reducible refine gN ?_);(with_reducible refine NN.a5 ?_))|((with_reducible refine gH ?_);((with_reducible refine NH.mk ?s ?_);case s=>(and_intros<;>first|with_reducible rfl|omega))))<;>(conv=>whnf))|((with_reducible refine gX ?_);(first|(with_reducible first|refine z3 ?_|refine z4 ?_|refine z8 ?_)|((with_reducible refine z29 ?_);intro A B hA hB;(conv=>whnf))))|(with_reducible first|refine z1 ?_|refine z2 ?_|refine z12 ?_)|((with_reducible refine gR ?_);((refine z31 rfl ?_);intro K hK;(conv=>whnf)))|((with_reducible refine gF ?_);((refine z33 rfl ?_);intro K hK;(conv=>whnf)))|((intro _;skip)<;>(conv=>whnf))))
    all_goals exact ⟨by rw [hR], MemFits.pre 1 rfl⟩
  | true =>
  have hbd := of_decide_eq_true hbd.symm
  rw [Bool.true_and] at hR
  (repeat' (first|(with_reducible first|(refine hK _ _ ?_;clear hK K)|(refine hB ?_;clear hA hB A B)|(refine hK _ ?_;clear hK K))|((with_reducible refine gO ?_);(first|((with_reducible first|refine z25 ?_|refine z26 ?_);intro K hK;(conv=>whnf))|(with_reducible refine z0 ?_)))|((first|((with_reducible refine gI ?_);(((with_reducible refine NIf.decN ?s ?_);case s=>omega)))|((with_reducible refine gN ?_);(with_reducible refine NN.a5 ?_))|((with_reducible refine gH ?_);((with_reducible refine NH.mk ?s ?_);case s=>(and_intros<;>first|with_reducible rfl|omega))))<;>(conv=>whnf))|((with_reducible refine gX ?_);(first|(with_reducible first|refine z3 ?_|refine z4 ?_|refine z5 ?_|refine z6 ?_)|((with_reducible refine z29 ?_);intro A B hA hB;(conv=>whnf))))|(with_reducible first|refine z1 ?_|refine z2 ?_)|((with_reducible refine gF ?_);((refine z33 rfl ?_);intro K hK;(conv=>whnf)))|((intro _;skip)<;>(conv=>whnf))))
  refine st_auto (α := Nat) (fun i => i ≤ ls.length ∧ (ls.take i).all A = true) (fun i => [.keep, .keep, .set (.bool false), .set (.int .i64 i), .drop, .keep, .keep, .keep, .keep, .keep, .keep, .keep, .keep, .keep, .keep, .keep, .keep, .keep, .keep, .keep, .keep, .keep, .keep, .keep, .keep, .keep, .drop, .drop, .drop, .drop, .drop, .drop, .drop, .drop, .drop, .drop, .drop, .drop, .drop, .drop, .drop, .drop, .drop, .drop, .drop, .drop, .drop, .drop, .drop, .drop, .drop, .drop, .drop, .drop, .drop, .drop, .drop, .drop, .drop, .drop, .drop, .drop, .drop, .drop, .drop, .drop, .drop, .drop, .drop, .drop, .drop, .drop, .drop, .drop, .drop, .drop, .drop, .drop, .keep, .keep, .keep, .keep, .keep, .keep, .keep, .keep, .keep, .keep, .keep, .keep, .keep, .keep, .keep, .keep, .keep, .keep, .keep, .keep, .keep, .keep]) (fun _ => []) (fun i => ls.length - i) 0 ⟨Nat.zero_le _, rfl⟩ ?_ (MemFits.eq rfl) ?_
  · repeat (first | exact FitsSl.nil | refine FitsSl.any ?_ | refine FitsSl.cons (Fit1.int (by first | rfl | omega)) ?_ | refine FitsSl.cons (Fit1.bool rfl) ?_ | refine FitsSl.cons (Fit1.str rfl) ?_ | refine FitsSl.cons (Fit1.same (by intro h; cases h) (by with_reducible rfl)) ?_ | refine FitsSl.cons Fit1.nil_sl ?_ | refine FitsSl.cons (Fit1.hs rfl) ?_ | refine FitsSl.cons (Fit1.hp rfl rfl) ?_ | refine FitsSl.cons (Fit1.sl rfl) ?_ | refine FitsSl.cons (Fit1.ptr rfl rfl) ?_ | refine FitsSl.cons Fit1.raw ?_)
  (intro i ⟨hi, hall⟩; intro K hK; (conv=>whnf); refine hK _ _ ?_; clear hK K)
  by_cases hlt : i < ls.length
  · have hx : ls[i]? = some ls[i] := List.getElem?_eq_getElem hlt
    obtain ⟨c0, c1, c2, c3, c4, c5⟩ := ht.l.get hx
    have hnx := hnx1 _ _ hx
    have hno := hno1 _ _ hx
    clear hnx1 hno1
    have hAx : A ls[i] = (Tp.lkOk ls[i] && (P (ls[i].a, ls[i].pa) && P (ls[i].b, ls[i].pb))) := by rw [← hA]
    generalize ls[i] = x at *
    obtain ⟨a, pa, b, pb, least, most⟩ := x
    dsimp only at c0 c1 c2 c3 c4 c5 hAx
    have cp1 := cp a pa
    have cp2 := cp b pb
    generalize P (a, pa) = p1 at *
    generalize P (b, pb) = p2 at *
    have hk0 : Tp.lkOk ⟨a, pa, b, pb, least, most⟩ = decide (¬ a = b ∧ 1 ≤ least ∧ least ≤ most ∧ most ≤ 1000) := rfl
    generalize Tp.lkOk ⟨a, pa, b, pb, least, most⟩ = k at *
    clear cp
    cases k with
    | true =>
      have hk2 := of_decide_eq_true hk0.symm
      cases p1 with
      | true =>
        cases p2 with
        | true =>
          (repeat' (first|(with_reducible first|(refine hK _ _ ?_;clear hK K)|(refine hA ?_;clear hA hB A B)|(refine hB ?_;clear hA hB A B))|((with_reducible refine gO ?_);(first|((with_reducible first|refine z25 ?_|refine z26 ?_);intro K hK;(conv=>whnf))|(with_reducible refine z0 ?_)))|((first|((with_reducible refine gV ?_);(((with_reducible refine NV.i64 ?s ?_);case s=>omega)))|((with_reducible refine gI ?_);(first|with_reducible refine NIf.not_ ?_|((with_reducible refine NIf.decY ?s ?_);case s=>omega)|((with_reducible refine NIf.decN ?s ?_);case s=>omega)|((with_reducible refine NIf.yes ?s ?_);case s=>rfl)))|((with_reducible refine gN ?_);(with_reducible first|refine NN.cast ?_|refine NN.a5 ?_|refine NN.keep ?_))|((with_reducible refine gH ?_);((with_reducible refine NH.mk ?s ?_);case s=>(and_intros<;>first|with_reducible rfl|((with_reducible refine gOnes ?_);rfl)|((with_reducible refine gLen ?_);rfl)|omega)))|((with_reducible refine gC ?_);(first|((with_reducible refine NCall.isF 77 ?_);refine NCall.subE [0] (cp1) rfl (by decide) rfl rfl ?_)|((with_reducible refine NCall.isF 77 ?_);refine NCall.subE [0] (cp2) rfl (by decide) rfl rfl ?_)))|(with_reducible refine NLd.of (by with_reducible assumption) ?_))<;>(conv=>whnf))|((with_reducible refine gX ?_);(first|(with_reducible first|refine z3 ?_|refine z4 ?_|refine z5 ?_|refine z6 ?_)|((with_reducible refine z29 ?_);intro A B hA hB;(conv=>whnf))))|(with_reducible first|refine z1 ?_|refine z2 ?_|refine z9 ?_)|((intro _;skip)<;>(conv=>whnf))))
          all_goals
            refine st_round (i + 1) ⟨hlt, by rw [hnx, hall]; rfl⟩ (by omega) ?_ (MemFits.pre 2 rfl)
            repeat (first | exact FitsSl.nil | refine FitsSl.any ?_ | refine FitsSl.cons (Fit1.int (by first | rfl | omega)) ?_ | refine FitsSl.cons (Fit1.bool rfl) ?_ | refine FitsSl.cons (Fit1.str rfl) ?_ | refine FitsSl.cons (Fit1.same (by intro h; cases h) (by with_reducible rfl)) ?_ | refine FitsSl.cons Fit1.nil_sl ?_ | refine FitsSl.cons (Fit1.hs rfl) ?_ | refine FitsSl.cons (Fit1.hp rfl rfl) ?_ | refine FitsSl.cons (Fit1.sl rfl) ?_ | refine FitsSl.cons (Fit1.ptr rfl rfl) ?_ | refine FitsSl.cons Fit1.raw ?_)
        | false =>
          have hR2 : R = false := by rw [hR, hno rfl]; rfl
          (repeat' (first|(with_reducible first|(refine hK _ _ ?_;clear hK K)|(refine hA ?_;clear hA hB A B)|(refine hK _ ?_;clear hK K))|((with_reducible refine gO ?_);(first|((with_reducible first|refine z25 ?_|refine z26 ?_);intro K hK;(conv=>whnf))|(with_reducible refine z0 ?_)))|((first|((with_reducible refine gI ?_);(first|with_reducible refine NIf.not_ ?_|((with_reducible refine NIf.decY ?s ?_);case s=>omega)|((with_reducible refine NIf.decN ?s ?_);case s=>omega)|((with_reducible refine NIf.yes ?s ?_);case s=>rfl)|((with_reducible refine NIf.no ?s ?_);case s=>rfl)))|((with_reducible refine gN ?_);(with_reducible first|refine NN.cast ?_|refine NN.a5 ?_|refine NN.keep ?_))|((with_reducible refine gH ?_);((with_reducible refine NH.mk ?s ?_);case s=>(and_intros<;>first|with_reducible rfl|((with_reducible refine gOnes ?_);rfl)|((with_reducible refine gLen ?_);rfl)|omega)))|((with_reducible refine gC ?_);(first|((with_reducible refine NCall.isF 77 ?_);refine NCall.subE [0] (cp1) rfl (by decide) rfl rfl ?_)|((with_reducible refine NCall.isF 77 ?_);refine NCall.subE [0] (cp2) rfl (by decide) rfl rfl ?_)))|(with_reducible refine NLd.of (by with_reducible assumption) ?_))<;>(conv=>whnf))|((with_reducible refine gX ?_);(first|(with_reducible first|refine z3 ?_|refine z4 ?_|refine z5 ?_|refine z6 ?_|refine z8 ?_)|((with_reducible refine z29 ?_);intro A B hA hB;(conv=>whnf))))|(with_reducible first|refine z1 ?_|refine z2 ?_|refine z12 ?_|refine z13 ?_|refine z20 ?_)|((with_reducible refine gR ?_);((refine z31 rfl ?_);intro K hK;(conv=>whnf)))|((intro _;skip)<;>(conv=>whnf))))
          all_goals exact ⟨by rw [hR2], MemFits.pre 1 rfl⟩
      | false =>
        have hR2 : R = false := by rw [hR, hno rfl]; rfl
        (repeat' (first|(with_reducible first|(refine hK _ _ ?_;clear hK K)|(refine hA ?_;clear hA hB A B)|(refine hK _ ?_;clear hK K))|((with_reducible refine gO ?_);(first|((with_reducible first|refine z25 ?_|refine z26 ?_);intro K hK;(conv=>whnf))|(with_reducible refine z0 ?_)))|((first|((with_reducible refine gI ?_);(first|with_reducible refine NIf.not_ ?_|((with_reducible refine NIf.decY ?s ?_);case s=>omega)|((with_reducible refine NIf.decN ?s ?_);case s=>omega)|((with_reducible refine NIf.yes ?s ?_);case s=>rfl)|((with_reducible refine NIf.no ?s ?_);case s=>rfl)))|((with_reducible refine gN ?_);(with_reducible first|refine NN.cast ?_|refine NN.a5 ?_|refine NN.keep ?_))|((with_reducible refine gH ?_);((with_reducible refine NH.mk ?s ?_);case s=>(and_intros<;>first|with_reducible rfl|((with_reducible refine gOnes ?_);rfl)|((with_reducible refine gLen ?_);rfl)|omega)))|((with_reducible refine gC ?_);(((with_reducible refine NCall.isF 77 ?_);refine NCall.subE [0] (cp1) rfl (by decide) rfl rfl ?_)))|(with_reducible refine NLd.of (by with_reducible assumption) ?_))<;>(conv=>whnf))|((with_reducible refine gX ?_);(first|(with_reducible first|refine z3 ?_|refine z4 ?_|refine z5 ?_|refine z6 ?_|refine z8 ?_)|((with_reducible refine z29 ?_);intro A B hA hB;(conv=>whnf))))|(with_reducible first|refine z1 ?_|refine z2 ?_|refine z12 ?_|refine z13 ?_|refine z20 ?_)|((with_reducible refine gR ?_);((refine z31 rfl ?_);intro K hK;(conv=>whnf)))|((intro _;skip)<;>(conv=>whnf))))
        all_goals exact ⟨by rw [hR2], MemFits.pre 1 rfl⟩
    | false =>
      have hR2 : R = false := by rw [hR, hno rfl]; rfl
      have hk2 := of_decide_eq_false hk0.symm
      clear cp1 cp2 hx hR hall
      have h4 : a = b ∨ (¬ a = b ∧ least < 1) ∨ (¬ a = b ∧ ¬ least < 1 ∧ least > most) ∨ (¬ a = b ∧ ¬ least < 1 ∧ ¬ least > most ∧ most > 1000) := by omega
      clear hk2
      rcases h4 with h | h | h | h
      · (repeat' (first|(with_reducible first|(refine hK _ _ ?_;clear hK K)|(refine hA ?_;clear hA hB A B)|(refine hK _ ?_;clear hK K))|((with_reducible refine gO ?_);(first|((with_reducible first|refine z25 ?_|refine z26 ?_);intro K hK;(conv=>whnf))|(with_reducible refine z0 ?_)))|((first|((with_reducible refine gI ?_);(first|((with_reducible refine NIf.decY ?s ?_);case s=>first|assumption|omega)|((with_reducible refine NIf.yes ?s ?_);case s=>rfl)))|((with_reducible refine gN ?_);(with_reducible first|refine NN.cast ?_|refine NN.a5 ?_|refine NN.keep ?_))|((with_reducible refine gH ?_);((with_reducible refine NH.mk ?s ?_);case s=>(and_intros<;>first|with_reducible rfl|((with_reducible refine gOnes ?_);rfl)|((with_reducible refine gLen ?_);rfl)|omega)))|(with_reducible refine NLd.of (by with_reducible assumption) ?_))<;>(conv=>whnf))|((with_reducible refine gX ?_);(first|(with_reducible first|refine z3 ?_|refine z4 ?_|refine z5 ?_|refine z6 ?_|refine z8 ?_)|((with_reducible refine z29 ?_);intro A B hA hB;(conv=>whnf))))|(with_reducible first|refine z1 ?_|refine z2 ?_|refine z12 ?_|refine z13 ?_|refine z20 ?_)|((with_reducible refine gR ?_);((refine z31 rfl ?_);intro K hK;(conv=>whnf)))|((intro _;skip)<;>(conv=>whnf))))
        exact ⟨by rw [hR2], MemFits.pre 1 rfl⟩
      · (repeat' (first|(with_reducible first|(refine hK _ _ ?_;clear hK K)|(refine hA ?_;clear hA hB A B)|(refine hK _ ?_;clear hK K))|((with_reducible refine gO ?_);(first|((with_reducible first|refine z25 ?_|refine z26 ?_);intro K hK;(conv=>whnf))|(with_reducible refine z0 ?_)))|((first|((with_reducible refine gI ?_);(first|((with_reducible refine NIf.decY ?s ?_);case s=>omega)|((with_reducible refine NIf.decN ?s ?_);case s=>omega)|((with_reducible refine NIf.yes ?s ?_);case s=>rfl)))|((with_reducible refine gN ?_);(with_reducible first|refine NN.cast ?_|refine NN.a5 ?_|refine NN.keep ?_))|((with_reducible refine gH ?_);((with_reducible refine NH.mk ?s ?_);case s=>(and_intros<;>first|with_reducible rfl|((with_reducible refine gOnes ?_);rfl)|((with_reducible refine gLen ?_);rfl)|omega)))|(with_reducible refine NLd.of (by with_reducible assumption) ?_))<;>(conv=>whnf))|((with_reducible refine gX ?_);(first|(with_reducible first|refine z3 ?_|refine z4 ?_|refine z5 ?_|refine z6 ?_|refine z8 ?_)|((with_reducible refine z29 ?_);intro A B hA hB;(conv=>whnf))))|(with_reducible first|refine z1 ?_|refine z2 ?_|refine z12 ?_|refine z13 ?_|refine z20 ?_)|((with_reducible refine gR ?_);((refine z31 rfl ?_);intro K hK;(conv=>whnf)))|((intro _;skip)<;>(conv=>whnf))))
        exact ⟨by rw [hR2], MemFits.pre 1 rfl⟩
      · (repeat' (first|(with_reducible first|(refine hK _ _ ?_;clear hK K)|(refine hA ?_;clear hA hB A B)|(refine hK _ ?_;clear hK K))|((with_reducible refine gO ?_);(first|((with_reducible first|refine z25 ?_|refine z26 ?_);intro K hK;(conv=>whnf))|(with_reducible refine z0 ?_)))|((first|((with_reducible refine gI ?_);(first|((with_reducible refine NIf.decY ?s ?_);case s=>omega)|((with_reducible refine NIf.decN ?s ?_);case s=>omega)|((with_reducible refine NIf.yes ?s ?_);case s=>rfl)))|((with_reducible refine gN ?_);(with_reducible first|refine NN.cast ?_|refine NN.a5 ?_|refine NN.keep ?_))|((with_reducible refine gH ?_);((with_reducible refine NH.mk ?s ?_);case s=>(and_intros<;>first|with_reducible rfl|((with_reducible refine gOnes ?_);rfl)|((with_reducible refine gLen ?_);rfl)|omega)))|(with_reducible refine NLd.of (by with_reducible assumption) ?_))<;>(conv=>whnf))|((with_reducible refine gX ?_);(first|(with_reducible first|refine z3 ?_|refine z4 ?_|refine z5 ?_|refine z6 ?_|refine z8 ?_)|((with_reducible refine z29 ?_);intro A B hA hB;(conv=>whnf))))|(with_reducible first|refine z1 ?_|refine z2 ?_|refine z12 ?_|refine z13 ?_|refine z20 ?_)|((with_reducible refine gR ?_);((refine z31 rfl ?_);intro K hK;(conv=>whnf)))|((intro _;skip)<;>(conv=>whnf))))
        exact ⟨by rw [hR2], MemFits.pre 1 rfl⟩
      · (repeat' (first|(with_reducible first|(refine hK _ _ ?_;clear hK K)|(refine hA ?_;clear hA hB A B)|(refine hK _ ?_;clear hK K))|((with_reducible refine gO ?_);(first|((with_reducible first|refine z25 ?_|refine z26 ?_);intro K hK;(conv=>whnf))|(with_reducible refine z0 ?_)))|((first|((with_reducible refine gI ?_);(first|((with_reducible refine NIf.decY ?s ?_);case s=>omega)|((with_reducible refine NIf.decN ?s ?_);case s=>omega)|((with_reducible refine NIf.yes ?s ?_);case s=>rfl)))|((with_reducible refine gN ?_);(with_reducible first|refine NN.cast ?_|refine NN.a5 ?_|refine NN.keep ?_))|((with_reducible refine gH ?_);((with_reducible refine NH.mk ?s ?_);case s=>(and_intros<;>first|with_reducible rfl|((with_reducible refine gOnes ?_);rfl)|((with_reducible refine gLen ?_);rfl)|omega)))|(with_reducible refine NLd.of (by with_reducible assumption) ?_))<;>(conv=>whnf))|((with_reducible refine gX ?_);(first|(with_reducible first|refine z3 ?_|refine z4 ?_|refine z5 ?_|refine z6 ?_|refine z8 ?_)|((with_reducible refine z29 ?_);intro A B hA hB;(conv=>whnf))))|(with_reducible first|refine z1 ?_|refine z2 ?_|refine z12 ?_|refine z13 ?_|refine z20 ?_)|((with_reducible refine gR ?_);((refine z31 rfl ?_);intro K hK;(conv=>whnf)))|((intro _;skip)<;>(conv=>whnf))))
        exact ⟨by rw [hR2], MemFits.pre 1 rfl⟩
  have hkl : i = ls.length := by omega
  subst hkl
  rw [List.take_length] at hall
  rw [hall, Bool.true_and] at hR
  clear hno1 hnx1
  have hno1 := fun i x (hx : hs[i]? = some x) h => Tp.all_not (q := fun h => P (h.at_, h.port)) hx h
  have hnx1 := fun i x (hx : hs[i]? = some x) => Tp.all_next (q := fun h => P (h.at_, h.port)) hx
  generalize hB : (fun h : Tp.Hs => P (h.at_, h.port)) = B at *
  (repeat' (first|(with_reducible first|(refine hK _ _ ?_;clear hK K)|(refine hB ?_;clear hA hB A B))|((with_reducible refine gO ?_);(first|((with_reducible refine z25 ?_);intro K hK;(conv=>whnf))|(with_reducible refine z0 ?_)))|((first|((with_reducible refine gI ?_);(((with_reducible refine NIf.decN ?s ?_);case s=>omega)))|((with_reducible refine gN ?_);(with_reducible refine NN.a5 ?_))|((with_reducible refine gH ?_);((with_reducible refine NH.mk ?s ?_);case s=>(and_intros<;>first|with_reducible rfl|omega))))<;>(conv=>whnf))|((with_reducible refine gX ?_);(first|(with_reducible first|refine z3 ?_|refine z4 ?_|refine z5 ?_|refine z7 ?_)|((with_reducible refine z29 ?_);intro A B hA hB;(conv=>whnf))))|(with_reducible first|refine z1 ?_|refine z2 ?_|refine z10 ?_|refine z11 ?_|refine z19 ?_)))
  refine st_auto (α := Nat) (fun i => i ≤ hs.length ∧ (hs.take i).all B = true) (fun i => [.keep, .keep, .set (.bool false), .keep, .keep, .set (.int .i64 i), .keep, .keep, .keep, .keep, .keep, .keep, .keep, .keep, .keep, .keep, .keep, .keep, .keep, .keep, .keep, .keep, .keep, .keep, .keep, .keep, .keep, .keep, .keep, .keep, .keep, .keep, .keep, .keep, .keep, .keep, .keep, .keep, .keep, .keep, .keep, .keep, .keep, .keep, .keep, .keep, .keep, .keep, .keep, .keep, .keep, .keep, .keep, .keep, .keep, .keep, .keep, .keep, .keep, .keep, .keep, .keep, .keep, .keep, .keep, .keep, .keep, .keep, .keep, .keep, .keep, .keep, .keep, .keep, .keep, .keep, .keep, .keep, .drop, .drop, .drop, .drop, .drop, .drop, .drop, .drop, .drop, .drop, .drop, .drop, .drop, .drop, .drop, .drop, .drop, .drop, .drop, .drop, .drop, .drop]) (fun _ => []) (fun i => hs.length - i) 0 ⟨Nat.zero_le _, rfl⟩ ?_ (MemFits.eq rfl) ?_
  · repeat (first | exact FitsSl.nil | refine FitsSl.any ?_ | refine FitsSl.cons (Fit1.int (by first | rfl | omega)) ?_ | refine FitsSl.cons (Fit1.bool rfl) ?_ | refine FitsSl.cons (Fit1.str rfl) ?_ | refine FitsSl.cons (Fit1.same (by intro h; cases h) (by with_reducible rfl)) ?_ | refine FitsSl.cons Fit1.nil_sl ?_ | refine FitsSl.cons (Fit1.hs rfl) ?_ | refine FitsSl.cons (Fit1.hp rfl rfl) ?_ | refine FitsSl.cons (Fit1.sl rfl) ?_ | refine FitsSl.cons (Fit1.ptr rfl rfl) ?_ | refine FitsSl.cons Fit1.raw ?_)
  (intro i ⟨hi, hall2⟩; intro K hK; (conv=>whnf); refine hK _ _ ?_; clear hK K)
  by_cases hlt : i < hs.length
  · have hx : hs[i]? = some hs[i] := List.getElem?_eq_getElem hlt
    obtain ⟨c0, c1⟩ := ht.h.get hx
    have hnx := hnx1 _ _ hx
    have hno := hno1 _ _ hx
    clear hnx1 hno1
    have hAx : B hs[i] = P (hs[i].at_, hs[i].port) := by rw [← hB]
    generalize hs[i] = x at *
    obtain ⟨a, b⟩ := x
    dsimp only at c0 c1 hAx
    have cp1 := cp a b
    generalize P (a, b) = p1 at *
    clear cp
    cases p1 with
    | true =>
      (repeat' (first|(with_reducible first|(refine hK _ _ ?_;clear hK K)|(refine hA ?_;clear hA hB A B)|(refine hB ?_;clear hA hB A B)|(refine hK _ ?_;clear hK K))|((with_reducible refine gO ?_);(first|((with_reducible refine z25 ?_);intro K hK;(conv=>whnf))|(with_reducible refine z0 ?_)))|((first|((with_reducible refine gV ?_);(((with_reducible refine NV.i64 ?s ?_);case s=>omega)))|((with_reducible refine gI ?_);(first|with_reducible refine NIf.not_ ?_|((with_reducible refine NIf.decY ?s ?_);case s=>omega)|((with_reducible refine NIf.yes ?s ?_);case s=>rfl)))|((with_reducible refine gN ?_);(with_reducible first|refine NN.cast ?_|refine NN.a5 ?_|refine NN.a6 ?_|refine NN.keep ?_))|((with_reducible refine gH ?_);((with_reducible refine NH.mk ?s ?_);case s=>(and_intros<;>first|with_reducible rfl|((with_reducible refine gKept ?_);exact rfl)|omega|rfl)))|((with_reducible refine gC ?_);((with_reducible refine NCall.isF 77 ?_);refine NCall.subE [0] (cp1) rfl (by decide) rfl rfl ?_))|(with_reducible refine NLd.of (by with_reducible assumption) ?_))<;>(conv=>whnf))|((with_reducible refine gNRK ?_);((with_reducible refine st_ordSout ?_)))|((with_reducible refine gNOK ?_);(first|(refine st_ordK1 rfl (by kernel_rfl) rfl ?_; intro K hK; (conv=>whnf))|(refine st_ordK0 rfl (by kernel_rfl) ?_)|(refine st_ordKA rfl rfl (by kernel_rfl) (by intro h; cases h) ?_)))|((with_reducible refine gNEK ?_);(first|(refine st_eachK ?_ ?_; (intro K hK; (conv=>whnf)))|exact st_eachK0))|((with_reducible refine gX ?_);(first|(refine st_orderS [] rfl rfl (by kernel_rfl) _ rfl ?_)|(with_reducible first|refine z3 ?_|refine z4 ?_|refine z5 ?_|refine z6 ?_)|((with_reducible refine z29 ?_);intro A B hA hB;(conv=>whnf))))|(with_reducible first|refine z1 ?_|refine z2 ?_|refine z9 ?_)))
      all_goals
        refine st_round (i + 1) ⟨hlt, by rw [hnx, hall2]; rfl⟩ (by omega) ?_ (MemFits.pre 2 rfl)
        repeat (first | exact FitsSl.nil | refine FitsSl.any ?_ | refine FitsSl.cons (Fit1.int (by first | rfl | omega)) ?_ | refine FitsSl.cons (Fit1.bool rfl) ?_ | refine FitsSl.cons (Fit1.str rfl) ?_ | refine FitsSl.cons (Fit1.same (by intro h; cases h) (by with_reducible rfl)) ?_ | refine FitsSl.cons Fit1.nil_sl ?_ | refine FitsSl.cons (Fit1.hs rfl) ?_ | refine FitsSl.cons (Fit1.hp rfl rfl) ?_ | refine FitsSl.cons (Fit1.sl rfl) ?_ | refine FitsSl.cons (Fit1.ptr rfl rfl) ?_ | refine FitsSl.cons Fit1.raw ?_)
    | false =>
      have hR2 : R = false := by rw [hR]; exact hno rfl
      (repeat' (first|(with_reducible first|(refine hK _ _ ?_;clear hK K)|(refine hA ?_;clear hA hB A B)|(refine hK _ ?_;clear hK K))|((with_reducible refine gO ?_);(first|((with_reducible refine z25 ?_);intro K hK;(conv=>whnf))|(with_reducible refine z0 ?_)))|((first|((with_reducible refine gI ?_);(first|with_reducible refine NIf.not_ ?_|((with_reducible refine NIf.decY ?s ?_);case s=>omega)|((with_reducible refine NIf.no ?s ?_);case s=>rfl)))|((with_reducible refine gN ?_);(with_reducible first|refine NN.cast ?_|refine NN.a5 ?_|refine NN.a6 ?_|refine NN.keep ?_))|((with_reducible refine gH ?_);((with_reducible refine NH.mk ?s ?_);case s=>(and_intros<;>first|with_reducible rfl|((with_reducible refine gKept ?_);exact rfl)|omega|rfl)))|((with_reducible refine gC ?_);((with_reducible refine NCall.isF 77 ?_);refine NCall.subE [0] (cp1) rfl (by decide) rfl rfl ?_))|(with_reducible refine NLd.of (by with_reducible assumption) ?_))<;>(conv=>whnf))|((with_reducible refine gNRK ?_);((with_reducible refine st_ordSout ?_)))|((with_reducible refine gNOK ?_);(first|(refine st_ordK1 rfl (by kernel_rfl) rfl ?_; intro K hK; (conv=>whnf))|(refine st_ordK0 rfl (by kernel_rfl) ?_)|(refine st_ordKA rfl rfl (by kernel_rfl) (by intro h; cases h) ?_)))|((with_reducible refine gNEK ?_);(first|(refine st_eachK ?_ ?_; (intro K hK; (conv=>whnf)))|exact st_eachK0))|((with_reducible refine gX ?_);(first|(refine st_orderS [] rfl rfl (by kernel_rfl) _ rfl ?_)|(with_reducible first|refine z3 ?_|refine z4 ?_|refine z5 ?_|refine z6 ?_|refine z8 ?_)|((with_reducible refine z29 ?_);intro A B hA hB;(conv=>whnf))))|(with_reducible first|refine z1 ?_|refine z2 ?_|refine z12 ?_|refine z13 ?_|refine z20 ?_)|((with_reducible refine gR ?_);((refine z31 rfl ?_);intro K hK;(conv=>whnf)))))
      all_goals exact ⟨by rw [hR2], MemFits.pre 1 rfl⟩
  have hkl : i = hs.length := by omega
  subst hkl
  rw [List.take_length] at hall2
  rw [hall2] at hR
  (repeat' (first|(with_reducible first|(refine hK _ _ ?_;clear hK K)|(refine hB ?_;clear hA hB A B)|(refine hK _ ?_;clear hK K))|((with_reducible refine gO ?_);(first|((with_reducible refine z25 ?_);intro K hK;(conv=>whnf))|(with_reducible refine z0 ?_)))|((first|((with_reducible refine gI ?_);(((with_reducible refine NIf.decN ?s ?_);case s=>omega)))|((with_reducible refine gN ?_);(with_reducible refine NN.a5 ?_))|((with_reducible refine gH ?_);((with_reducible refine NH.mk ?s ?_);case s=>(and_intros<;>first|with_reducible rfl|omega))))<;>(conv=>whnf))|((with_reducible refine gX ?_);(first|(with_reducible first|refine z3 ?_|refine z4 ?_|refine z7 ?_|refine z8 ?_)|((with_reducible refine z29 ?_);intro A B hA hB;(conv=>whnf))))|(with_reducible first|refine z1 ?_|refine z2 ?_|refine z10 ?_|refine z11 ?_|refine z19 ?_)|((with_reducible refine gR ?_);((refine z31 rfl ?_);intro K hK;(conv=>whnf)))))
  all_goals exact ⟨by rw [hR], MemFits.pre 1 rfl⟩
end Go.Proofs.YtpkjnmddembkjaaGreatDoor
