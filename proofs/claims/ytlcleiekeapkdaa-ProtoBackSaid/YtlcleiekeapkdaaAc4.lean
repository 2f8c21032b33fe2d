/-
  Acts, read of both readers.
-/
import Derived.Test.YtlcleiekeapkdaaAc2
import Derived.Test.YtlcleiekeapkdaaAc4d
import Derived.Test.YtlcleiekeapkdaaMt14
namespace Go.Proofs.Ytlcleiekeapkdaa
open Go.Sx
set_option maxRecDepth 20000
set_option linter.unusedSimpArgs false
set_option linter.unusedVariables false
set_option linter.unusedVariables false
namespace Ac
def actOf (r : Oct.R) : A := ⟨Oct.nsq r 0, Oct.nsq r 1, Oct.nsq r 2⟩
def stepR (ports : Int) (r : Oct.R) : Oct.R := if ok1 ports (actOf r) then Oct.rsq r 3 else (Oct.rsq r 3).wrong 2
def stR (ports : Int) (r : Oct.R) : Nat → Oct.R
  | 0 => r
  | k + 1 => stepR ports (stR ports r k)
def lst (ports : Int) (r : Oct.R) : Nat → List A
  | 0 => []
  | k + 1 => lst ports r k ++ [actOf (stR ports r k)]
theorem lst_len (ports : Int) (r : Oct.R) : ∀ k, (lst ports r k).length = k
  | 0 => rfl
  | k + 1 => by unfold lst; simp [lst_len ports r k]
theorem stR_ok {ports : Int} {r : Oct.R} (h : r.ok) : ∀ k, (stR ports r k).ok
  | 0 => h
  | k + 1 => by
    have := stR_ok (ports := ports) h k
    unfold stR stepR
    split
    · exact Oct.rsq_ok this 3
    · exact Oct.R.wrong_ok (Oct.rsq_ok this 3) (by decide)
def cnt (r : Oct.R) : Nat := ((r.count 16).1).toNat
def rdEnd (ports : Int) (r : Oct.R) : Oct.R := stR ports (r.count 16).2 (cnt r)
def rdList (ports : Int) (r : Oct.R) : List A := if (rdEnd ports r).bad = 0 then lst ports (r.count 16).2 (cnt r) else []
theorem cnt_eq (r : Oct.R) : (r.count 16).1 = (cnt r : Int) ∧ cnt r ≤ 16 := by
  unfold cnt Oct.R.count
  split
  · simp
  · dsimp only; omega
theorem count_ok {r : Oct.R} (h : r.ok) : (r.count 16).2.ok := by
  unfold Oct.R.count
  split
  · exact Oct.R.wrong_ok (Oct.R.num_keeps h) (by decide)
  · exact Oct.R.num_keeps h
theorem rdEnd_ok {ports : Int} {r : Oct.R} (h : r.ok) : (rdEnd ports r).ok := stR_ok (count_ok h) _
end Ac
set_option maxHeartbeats 4000000 in
theorem read9_raw (a : Addr) (r : Oct.R) (h : r.ok) (ports : Int) : NCall Try.prog 67 [.ptr 0 a 0, .int .i64 ports] [RB a r] fun v m => ∃ u, v.den = slOf u ∧ MemFits m [RB a (Ac.rdEnd ports r), actRow u (Ac.rdList ports r)] := by
  obtain ⟨hc1, hc2⟩ := Ac.cnt_eq r
  have hr1 := Ac.count_ok h
  have cc := rcount_c a r 16 h
  rw [hc1] at cc
  have eL : Ac.rdList ports r = if (Ac.rdEnd ports r).bad = 0 then Ac.lst ports (r.count 16).2 (Ac.cnt r) else [] := rfl
  have eR : Ac.rdEnd ports r = Ac.stR ports (r.count 16).2 (Ac.cnt r) := rfl
  generalize Ac.rdList ports r = L at *
  generalize Ac.rdEnd ports r = E at *
  generalize Ac.cnt r = n at *
  generalize (r.count 16).2 = r1 at *
  refine ncall_of Try.func67 rfl (by decide) ?_
  (repeat' (first|(with_reducible first|(refine hK _ _ ?_;clear hK K)|(refine hA ?_;clear hA hB A B)|(refine hB ?_;clear hA hB A B)|(refine hK _ ?_;clear hK K))|((with_reducible refine gO ?_);(first|((with_reducible first|refine z25 ?_|refine z26 ?_);intro K hK;(conv=>whnf))|(with_reducible first|refine z0 ?_)))|((with_reducible refine gP ?_);(first|((with_reducible first|refine z27 ?_|refine z28 ?_);intro K hK;(conv=>whnf))|(with_reducible first|refine z24 ?_)))|((first|((with_reducible refine gV ?_);(first|((with_reducible first|refine NV.quo ?s ?_|refine NV.rem ?s ?_|refine NV.i64 ?s ?_|refine NV.u32 ?s ?_|refine NV.u8 ?s ?_|refine NV.u64 ?s ?_);case s=>omega)|(with_reducible first|refine NV.divk ?_|refine NV.modk ?_|refine NV.keep ?_)))|((with_reducible refine gI ?_);(first|with_reducible refine NIf.not_ ?_|((with_reducible refine NIf.decY ?s ?_);case s=>first|with_reducible rfl|assumption|omega)|((with_reducible refine NIf.decN ?s ?_);case s=>first|with_reducible rfl|assumption|omega)|((with_reducible refine NIf.yes ?s ?_);case s=>first|rfl|assumption)|((with_reducible refine NIf.no ?s ?_);case s=>first|rfl|assumption)|(with_reducible first|refine NIf.dec (fun _=>?_) (fun _=>?_)|refine NIf.both (fun _=>?_) (fun _=>?_))))|((with_reducible refine gN ?_);(with_reducible first|refine NN.lit ?_|refine NN.cast ?_|refine NN.a1 ?_|refine NN.a2 ?_|refine NN.a3 ?_|refine NN.a4 ?_|refine NN.a5 ?_|refine NN.a6 ?_|refine NN.keep ?_))|((with_reducible refine gH ?_);((with_reducible refine NH.mk ?s ?_);case s=>(and_intros<;>first|with_reducible rfl|((with_reducible refine gOnes ?_);rfl)|((with_reducible refine gLen ?_);rfl)|omega|assumption|exact Nat.le_of_ble_eq_true rfl|(simp only [List.length_append, List.length_cons, List.length_nil]; omega)|rfl)))|((with_reducible refine gC ?_);((with_reducible refine NCall.isF 53 ?_);refine NCall.subE [0] (cc) rfl (by decide) rfl rfl ?_))|(with_reducible refine NS.keep ?_)|(with_reducible refine NLd.of (by with_reducible assumption) ?_))<;>(conv=>whnf))|((with_reducible refine gX ?_);(first|(with_reducible first|refine z3 ?_|refine z4 ?_|refine z5 ?_|refine z6 ?_|refine z7 ?_|refine z8 ?_|refine z14 ?_|refine z15 ?_)|((with_reducible refine z29 ?_);intro A B hA hB;(conv=>whnf))|(refine z34 (by kernel_rfl) (by kernel_rfl) ?_)))|(with_reducible first|refine z1 ?_|refine z2 ?_|refine z9 ?_|refine z10 ?_|refine z11 ?_|refine z12 ?_|refine z13 ?_|refine z16 ?_|refine z17 ?_|refine z18 ?_|refine z19 ?_|refine z20 ?_|refine z21 ?_|refine z22 ?_|refine z23 ?_)|((with_reducible refine gB ?_);(refine z30 (by decide) ?_))|((with_reducible refine gR ?_);((first|refine z31 rfl ?_|refine z32 rfl ?_);intro K hK;(conv=>whnf)))|((with_reducible refine gF ?_);((refine z33 rfl ?_);intro K hK;(conv=>whnf)))|((refine NFlat_iff.2 ⟨⟨?s1,?s2⟩,?_⟩;(case s1=>decide +kernel);(case s2=>decide +kernel))<;>(conv=>whnf))|((intro _;skip)<;>(conv=>whnf))))
  refine st_auto (α := Value × Nat) (fun (u, k) => k ≤ n) (fun (u, k) => [.keep, .keep, .keep, .keep, .keep, .set (.sl 1 u k), .drop, .keep, .keep, .set (.int .i64 k), .drop, .drop, .drop, .drop, .drop, .drop, .drop, .drop, .drop, .drop, .drop, .drop, .drop, .drop, .drop, .drop, .drop, .drop, .drop, .keep, .keep, .keep, .keep])
    (fun (u, k) => [.set (RB a (Ac.stR ports r1 k)), .set ⟨addrOf u, Ac.avs (Ac.lst ports r1 k), .row u 82 3 k⟩]) (fun (u, k) => n - k) (.slice none 0 0, 0) (Nat.zero_le _) ?_ (MemFits.nilRow [RB a r1] _ _) ?_
  · repeat (first | exact FitsSl.nil | refine FitsSl.any ?_ | refine FitsSl.cons (Fit1.int (by first | rfl | omega)) ?_ | refine FitsSl.cons (Fit1.bool rfl) ?_ | refine FitsSl.cons (Fit1.str rfl) ?_ | refine FitsSl.cons (Fit1.same (by intro h; cases h) (by with_reducible rfl)) ?_ | refine FitsSl.cons Fit1.nil_sl ?_ | refine FitsSl.cons (Fit1.hs rfl) ?_ | refine FitsSl.cons (Fit1.hp rfl rfl) ?_ | refine FitsSl.cons (Fit1.sl rfl) ?_ | refine FitsSl.cons (Fit1.ptr rfl rfl) ?_ | refine FitsSl.cons Fit1.raw ?_)
  (intro ⟨u, k⟩ hk; intro K hK; (conv=>whnf); refine hK _ _ ?_; clear hK K)
  have hlk := Ac.lst_len ports r1 k
  have hok := Ac.stR_ok (ports := ports) hr1 k
  by_cases hlt : k < n
  · have hal := Ac.avs_len (Ac.lst ports r1 k)
    have hnx := Ac.avs_next (Ac.lst ports r1 k) (Ac.actOf (Ac.stR ports r1 k))
    have hls : Ac.lst ports r1 (k + 1) = Ac.lst ports r1 k ++ [Ac.actOf (Ac.stR ports r1 k)] := rfl
    rw [← hls] at hnx
    have hst : Ac.stR ports r1 (k + 1) = if Ac.ok1 ports (Ac.actOf (Ac.stR ports r1 k)) then Oct.rsq (Ac.stR ports r1 k) 3 else (Oct.rsq (Ac.stR ports r1 k) 3).wrong 2 := rfl
    have c0 : NCall Try.prog 34 [.ptr 0 a 0, .int .i64 1] [RB a (Ac.stR ports r1 k)] _ := rsq_c a (Ac.stR ports r1 k) hok 0
    have c1 := rsq_c a (Ac.stR ports r1 k) hok 1
    have c2 := rsq_c a (Ac.stR ports r1 k) hok 2
    have hw := rwrong_c a (Oct.rsq (Ac.stR ports r1 k) 3) 2
    have hq := right9_c (Ac.actOf (Ac.stR ports r1 k)) ports
    have hx : Ac.actOf (Ac.stR ports r1 k) = ⟨Oct.nsq (Ac.stR ports r1 k) 0, Oct.nsq (Ac.stR ports r1 k) 1, Oct.nsq (Ac.stR ports r1 k) 2⟩ := rfl
    generalize Ac.actOf (Ac.stR ports r1 k) = x at *
    generalize (Oct.rsq (Ac.stR ports r1 k) 3).wrong 2 = rw2 at *
    generalize Oct.nsq (Ac.stR ports r1 k) 0 = n0 at *
    generalize Oct.nsq (Ac.stR ports r1 k) 1 = n1 at *
    generalize Oct.nsq (Ac.stR ports r1 k) 2 = n2 at *
    generalize Oct.rsq (Ac.stR ports r1 k) 1 = q1 at *
    generalize Oct.rsq (Ac.stR ports r1 k) 2 = q2 at *
    generalize Oct.rsq (Ac.stR ports r1 k) 3 = q3 at *
    generalize Ac.stR ports r1 k = rk at *
    generalize Ac.avs (Ac.lst ports r1 k) = ps at *
    subst hx
    simp only [Ac.A.av] at hq
    by_cases ho : Ac.ok1 ports ⟨n0, n1, n2⟩
    · rw [if_pos ho] at hst
      rw [decide_eq_true ho] at hq
      (repeat' (first|(with_reducible first|(refine hK _ _ ?_;clear hK K)|(refine hA ?_;clear hA hB A B)|(refine hB ?_;clear hA hB A B)|(refine hK _ ?_;clear hK K))|((with_reducible refine gO ?_);(first|((with_reducible first|refine z25 ?_|refine z26 ?_);intro K hK;(conv=>whnf))|(with_reducible first|refine z0 ?_)))|((with_reducible refine gP ?_);(first|((with_reducible first|refine z27 ?_|refine z28 ?_);intro K hK;(conv=>whnf))|(with_reducible first|refine z24 ?_)))|((first|((with_reducible refine gV ?_);(first|((with_reducible first|refine NV.quo ?s ?_|refine NV.rem ?s ?_|refine NV.i64 ?s ?_|refine NV.u32 ?s ?_|refine NV.u8 ?s ?_|refine NV.u64 ?s ?_);case s=>omega)|(with_reducible first|refine NV.divk ?_|refine NV.modk ?_|refine NV.keep ?_)))|((with_reducible refine gI ?_);(first|with_reducible refine NIf.not_ ?_|((with_reducible refine NIf.decY ?s ?_);case s=>first|with_reducible rfl|assumption|omega)|((with_reducible refine NIf.decN ?s ?_);case s=>first|with_reducible rfl|assumption|omega)|((with_reducible refine NIf.yes ?s ?_);case s=>first|rfl|assumption)|((with_reducible refine NIf.no ?s ?_);case s=>first|rfl|assumption)|(with_reducible first|refine NIf.dec (fun _=>?_) (fun _=>?_)|refine NIf.both (fun _=>?_) (fun _=>?_))))|((with_reducible refine gN ?_);(with_reducible first|refine NN.lit ?_|refine NN.cast ?_|refine NN.a1 ?_|refine NN.a2 ?_|refine NN.a3 ?_|refine NN.a4 ?_|refine NN.a5 ?_|refine NN.a6 ?_|refine NN.keep ?_))|((with_reducible refine gH ?_);((with_reducible refine NH.mk ?s ?_);case s=>(and_intros<;>first|with_reducible rfl|((with_reducible refine gOnes ?_);rfl)|((with_reducible refine gLen ?_);rfl)|omega|assumption|exact Nat.le_of_ble_eq_true rfl|(simp only [List.length_append, List.length_cons, List.length_nil]; omega)|rfl)))|((with_reducible refine gC ?_);(first|((with_reducible refine NCall.isF 34 ?_);refine NCall.subE [0] (c0) rfl (by decide) rfl rfl ?_)|((with_reducible refine NCall.isF 34 ?_);refine NCall.subE [0] (c1) rfl (by decide) rfl rfl ?_)|((with_reducible refine NCall.isF 34 ?_);refine NCall.subE [0] (c2) rfl (by decide) rfl rfl ?_)|((with_reducible refine NCall.isF 71 ?_);refine NCall.pureE (hq) ?_)))|(with_reducible refine NS.keep ?_)|(with_reducible refine NLd.of (by with_reducible assumption) ?_))<;>(conv=>whnf))|((with_reducible refine gX ?_);(first|(with_reducible first|refine z3 ?_|refine z4 ?_|refine z5 ?_|refine z6 ?_|refine z7 ?_|refine z8 ?_|refine z14 ?_|refine z15 ?_)|((with_reducible refine z29 ?_);intro A B hA hB;(conv=>whnf))|(refine z34 (by kernel_rfl) (by kernel_rfl) ?_)))|(with_reducible first|refine z1 ?_|refine z2 ?_|refine z9 ?_|refine z10 ?_|refine z11 ?_|refine z12 ?_|refine z13 ?_|refine z16 ?_|refine z17 ?_|refine z18 ?_|refine z19 ?_|refine z20 ?_|refine z21 ?_|refine z22 ?_|refine z23 ?_)|((with_reducible refine gB ?_);(refine z30 (by decide) ?_))|((with_reducible refine gR ?_);((first|refine z31 rfl ?_|refine z32 rfl ?_);intro K hK;(conv=>whnf)))|((with_reducible refine gF ?_);((refine z33 rfl ?_);intro K hK;(conv=>whnf)))|((refine NFlat_iff.2 ⟨⟨?s1,?s2⟩,?_⟩;(case s1=>decide +kernel);(case s2=>decide +kernel))<;>(conv=>whnf))|((intro _;skip)<;>(conv=>whnf))))
      all_goals
        rename_i v2
        refine st_round (v2, k + 1) hlt (by dsimp only; omega) ?_ (MemFits.pre 2 ?_)
        · repeat (first | exact FitsSl.nil | refine FitsSl.any ?_ | refine FitsSl.cons (Fit1.int (by first | rfl | omega)) ?_ | refine FitsSl.cons (Fit1.bool rfl) ?_ | refine FitsSl.cons (Fit1.str rfl) ?_ | refine FitsSl.cons (Fit1.same (by intro h; cases h) (by with_reducible rfl)) ?_ | refine FitsSl.cons Fit1.nil_sl ?_ | refine FitsSl.cons (Fit1.hs rfl) ?_ | refine FitsSl.cons (Fit1.hp rfl rfl) ?_ | refine FitsSl.cons (Fit1.sl rfl) ?_ | refine FitsSl.cons (Fit1.ptr rfl rfl) ?_ | refine FitsSl.cons Fit1.raw ?_)
        · simp only [autoM, List.take]
          rw [hnx, hst]
          rfl
    · rw [if_neg ho] at hst
      rw [decide_eq_false ho] at hq
      (repeat' (first|(with_reducible first|(refine hK _ _ ?_;clear hK K)|(refine hA ?_;clear hA hB A B)|(refine hB ?_;clear hA hB A B)|(refine hK _ ?_;clear hK K))|((with_reducible refine gO ?_);(first|((with_reducible first|refine z25 ?_|refine z26 ?_);intro K hK;(conv=>whnf))|(with_reducible first|refine z0 ?_)))|((with_reducible refine gP ?_);(first|((with_reducible first|refine z27 ?_|refine z28 ?_);intro K hK;(conv=>whnf))|(with_reducible first|refine z24 ?_)))|((first|((with_reducible refine gV ?_);(first|((with_reducible first|refine NV.quo ?s ?_|refine NV.rem ?s ?_|refine NV.i64 ?s ?_|refine NV.u32 ?s ?_|refine NV.u8 ?s ?_|refine NV.u64 ?s ?_);case s=>omega)|(with_reducible first|refine NV.divk ?_|refine NV.modk ?_|refine NV.keep ?_)))|((with_reducible refine gI ?_);(first|with_reducible refine NIf.not_ ?_|((with_reducible refine NIf.decY ?s ?_);case s=>first|with_reducible rfl|assumption|omega)|((with_reducible refine NIf.decN ?s ?_);case s=>first|with_reducible rfl|assumption|omega)|((with_reducible refine NIf.yes ?s ?_);case s=>first|rfl|assumption)|((with_reducible refine NIf.no ?s ?_);case s=>first|rfl|assumption)|(with_reducible first|refine NIf.dec (fun _=>?_) (fun _=>?_)|refine NIf.both (fun _=>?_) (fun _=>?_))))|((with_reducible refine gN ?_);(with_reducible first|refine NN.lit ?_|refine NN.cast ?_|refine NN.a1 ?_|refine NN.a2 ?_|refine NN.a3 ?_|refine NN.a4 ?_|refine NN.a5 ?_|refine NN.a6 ?_|refine NN.keep ?_))|((with_reducible refine gH ?_);((with_reducible refine NH.mk ?s ?_);case s=>(and_intros<;>first|with_reducible rfl|((with_reducible refine gOnes ?_);rfl)|((with_reducible refine gLen ?_);rfl)|omega|assumption|exact Nat.le_of_ble_eq_true rfl|(simp only [List.length_append, List.length_cons, List.length_nil]; omega)|rfl)))|((with_reducible refine gC ?_);(first|((with_reducible refine NCall.isF 34 ?_);refine NCall.subE [0] (c0) rfl (by decide) rfl rfl ?_)|((with_reducible refine NCall.isF 34 ?_);refine NCall.subE [0] (c1) rfl (by decide) rfl rfl ?_)|((with_reducible refine NCall.isF 34 ?_);refine NCall.subE [0] (c2) rfl (by decide) rfl rfl ?_)|((with_reducible refine NCall.isF 71 ?_);refine NCall.pureE (hq) ?_)|((with_reducible refine NCall.isF 35 ?_);refine NCall.subw [0] _ _ (hw) rfl (by decide) rfl ?_; rintro _ _ rfl; refine ⟨Nat.le_of_ble_eq_true rfl, _, rfl, ?_⟩)))|(with_reducible refine NS.keep ?_)|(with_reducible refine NLd.of (by with_reducible assumption) ?_))<;>(conv=>whnf))|((with_reducible refine gX ?_);(first|(with_reducible first|refine z3 ?_|refine z4 ?_|refine z5 ?_|refine z6 ?_|refine z7 ?_|refine z8 ?_|refine z14 ?_|refine z15 ?_)|((with_reducible refine z29 ?_);intro A B hA hB;(conv=>whnf))|(refine z34 (by kernel_rfl) (by kernel_rfl) ?_)))|(with_reducible first|refine z1 ?_|refine z2 ?_|refine z9 ?_|refine z10 ?_|refine z11 ?_|refine z12 ?_|refine z13 ?_|refine z16 ?_|refine z17 ?_|refine z18 ?_|refine z19 ?_|refine z20 ?_|refine z21 ?_|refine z22 ?_|refine z23 ?_)|((with_reducible refine gB ?_);(refine z30 (by decide) ?_))|((with_reducible refine gR ?_);((first|refine z31 rfl ?_|refine z32 rfl ?_);intro K hK;(conv=>whnf)))|((with_reducible refine gF ?_);((refine z33 rfl ?_);intro K hK;(conv=>whnf)))|((refine NFlat_iff.2 ⟨⟨?s1,?s2⟩,?_⟩;(case s1=>decide +kernel);(case s2=>decide +kernel))<;>(conv=>whnf))|((intro _;skip)<;>(conv=>whnf))))
      all_goals
        rename_i v2
        refine st_round (v2, k + 1) hlt (by dsimp only; omega) ?_ (MemFits.pre 2 ?_)
        · repeat (first | exact FitsSl.nil | refine FitsSl.any ?_ | refine FitsSl.cons (Fit1.int (by first | rfl | omega)) ?_ | refine FitsSl.cons (Fit1.bool rfl) ?_ | refine FitsSl.cons (Fit1.str rfl) ?_ | refine FitsSl.cons (Fit1.same (by intro h; cases h) (by with_reducible rfl)) ?_ | refine FitsSl.cons Fit1.nil_sl ?_ | refine FitsSl.cons (Fit1.hs rfl) ?_ | refine FitsSl.cons (Fit1.hp rfl rfl) ?_ | refine FitsSl.cons (Fit1.sl rfl) ?_ | refine FitsSl.cons (Fit1.ptr rfl rfl) ?_ | refine FitsSl.cons Fit1.raw ?_)
        · simp only [autoM, List.take]
          rw [hnx, hst]
          rfl
  · have e : k = n := by omega
    subst e
    rw [← eR] at hok ⊢
    have hko := rok_c a E
    by_cases hb : E.bad = 0
    · rw [decide_eq_true hb] at hko
      rw [if_pos hb] at eL
      (repeat' (first|(with_reducible first|(refine hK _ _ ?_;clear hK K)|(refine hA ?_;clear hA hB A B)|(refine hB ?_;clear hA hB A B)|(refine hK _ ?_;clear hK K))|((with_reducible refine gO ?_);(first|((with_reducible first|refine z25 ?_|refine z26 ?_);intro K hK;(conv=>whnf))|(with_reducible first|refine z0 ?_)))|((with_reducible refine gP ?_);(first|((with_reducible first|refine z27 ?_|refine z28 ?_);intro K hK;(conv=>whnf))|(with_reducible first|refine z24 ?_)))|((first|((with_reducible refine gV ?_);(first|((with_reducible first|refine NV.quo ?s ?_|refine NV.rem ?s ?_|refine NV.i64 ?s ?_|refine NV.u32 ?s ?_|refine NV.u8 ?s ?_|refine NV.u64 ?s ?_);case s=>omega)|(with_reducible first|refine NV.divk ?_|refine NV.modk ?_|refine NV.keep ?_)))|((with_reducible refine gI ?_);(first|with_reducible refine NIf.not_ ?_|((with_reducible refine NIf.decY ?s ?_);case s=>first|with_reducible rfl|assumption|omega)|((with_reducible refine NIf.decN ?s ?_);case s=>first|with_reducible rfl|assumption|omega)|((with_reducible refine NIf.yes ?s ?_);case s=>first|rfl|assumption)|((with_reducible refine NIf.no ?s ?_);case s=>first|rfl|assumption)|(with_reducible first|refine NIf.dec (fun _=>?_) (fun _=>?_)|refine NIf.both (fun _=>?_) (fun _=>?_))))|((with_reducible refine gN ?_);(with_reducible first|refine NN.lit ?_|refine NN.cast ?_|refine NN.a1 ?_|refine NN.a2 ?_|refine NN.a3 ?_|refine NN.a4 ?_|refine NN.a5 ?_|refine NN.a6 ?_|refine NN.keep ?_))|((with_reducible refine gH ?_);((with_reducible refine NH.mk ?s ?_);case s=>(and_intros<;>first|with_reducible rfl|((with_reducible refine gOnes ?_);rfl)|((with_reducible refine gLen ?_);rfl)|omega|assumption|exact Nat.le_of_ble_eq_true rfl|(simp only [List.length_append, List.length_cons, List.length_nil]; omega)|rfl)))|((with_reducible refine gC ?_);((with_reducible refine NCall.isF 37 ?_);refine NCall.subE [0] (hko) rfl (by decide) rfl rfl ?_))|(with_reducible refine NS.keep ?_)|(with_reducible refine NLd.of (by with_reducible assumption) ?_))<;>(conv=>whnf))|((with_reducible refine gX ?_);(first|(with_reducible first|refine z3 ?_|refine z4 ?_|refine z5 ?_|refine z6 ?_|refine z7 ?_|refine z8 ?_|refine z14 ?_|refine z15 ?_)|((with_reducible refine z29 ?_);intro A B hA hB;(conv=>whnf))|(refine z34 (by kernel_rfl) (by kernel_rfl) ?_)))|(with_reducible first|refine z1 ?_|refine z2 ?_|refine z9 ?_|refine z10 ?_|refine z11 ?_|refine z12 ?_|refine z13 ?_|refine z16 ?_|refine z17 ?_|refine z18 ?_|refine z19 ?_|refine z20 ?_|refine z21 ?_|refine z22 ?_|refine z23 ?_)|((with_reducible refine gB ?_);(refine z30 (by decide) ?_))|((with_reducible refine gR ?_);((first|refine z31 rfl ?_|refine z32 rfl ?_);intro K hK;(conv=>whnf)))|((with_reducible refine gF ?_);((refine z33 rfl ?_);intro K hK;(conv=>whnf)))|((refine NFlat_iff.2 ⟨⟨?s1,?s2⟩,?_⟩;(case s1=>decide +kernel);(case s2=>decide +kernel))<;>(conv=>whnf))|((intro _;skip)<;>(conv=>whnf))))
      refine ⟨u, rfl, MemFits.eq ?_⟩
      unfold actRow
      rw [eL, hlk]
    · rw [decide_eq_false hb] at hko
      rw [if_neg hb] at eL
      (repeat' (first|(with_reducible first|(refine hK _ _ ?_;clear hK K)|(refine hA ?_;clear hA hB A B)|(refine hB ?_;clear hA hB A B)|(refine hK _ ?_;clear hK K))|((with_reducible refine gO ?_);(first|((with_reducible first|refine z25 ?_|refine z26 ?_);intro K hK;(conv=>whnf))|(with_reducible first|refine z0 ?_)))|((with_reducible refine gP ?_);(first|((with_reducible first|refine z27 ?_|refine z28 ?_);intro K hK;(conv=>whnf))|(with_reducible first|refine z24 ?_)))|((first|((with_reducible refine gV ?_);(first|((with_reducible first|refine NV.quo ?s ?_|refine NV.rem ?s ?_|refine NV.i64 ?s ?_|refine NV.u32 ?s ?_|refine NV.u8 ?s ?_|refine NV.u64 ?s ?_);case s=>omega)|(with_reducible first|refine NV.divk ?_|refine NV.modk ?_|refine NV.keep ?_)))|((with_reducible refine gI ?_);(first|with_reducible refine NIf.not_ ?_|((with_reducible refine NIf.decY ?s ?_);case s=>first|with_reducible rfl|assumption|omega)|((with_reducible refine NIf.decN ?s ?_);case s=>first|with_reducible rfl|assumption|omega)|((with_reducible refine NIf.yes ?s ?_);case s=>first|rfl|assumption)|((with_reducible refine NIf.no ?s ?_);case s=>first|rfl|assumption)|(with_reducible first|refine NIf.dec (fun _=>?_) (fun _=>?_)|refine NIf.both (fun _=>?_) (fun _=>?_))))|((with_reducible refine gN ?_);(with_reducible first|refine NN.lit ?_|refine NN.cast ?_|refine NN.a1 ?_|refine NN.a2 ?_|refine NN.a3 ?_|refine NN.a4 ?_|refine NN.a5 ?_|refine NN.a6 ?_|refine NN.keep ?_))|((with_reducible refine gH ?_);((with_reducible refine NH.mk ?s ?_);case s=>(and_intros<;>first|with_reducible rfl|((with_reducible refine gOnes ?_);rfl)|((with_reducible refine gLen ?_);rfl)|omega|assumption|exact Nat.le_of_ble_eq_true rfl|(simp only [List.length_append, List.length_cons, List.length_nil]; omega)|rfl)))|((with_reducible refine gC ?_);((with_reducible refine NCall.isF 37 ?_);refine NCall.subE [0] (hko) rfl (by decide) rfl rfl ?_))|(with_reducible refine NS.keep ?_)|(with_reducible refine NLd.of (by with_reducible assumption) ?_))<;>(conv=>whnf))|((with_reducible refine gX ?_);(first|(with_reducible first|refine z3 ?_|refine z4 ?_|refine z5 ?_|refine z6 ?_|refine z7 ?_|refine z8 ?_|refine z14 ?_|refine z15 ?_)|((with_reducible refine z29 ?_);intro A B hA hB;(conv=>whnf))|(refine z34 (by kernel_rfl) (by kernel_rfl) ?_)))|(with_reducible first|refine z1 ?_|refine z2 ?_|refine z9 ?_|refine z10 ?_|refine z11 ?_|refine z12 ?_|refine z13 ?_|refine z16 ?_|refine z17 ?_|refine z18 ?_|refine z19 ?_|refine z20 ?_|refine z21 ?_|refine z22 ?_|refine z23 ?_)|((with_reducible refine gB ?_);(refine z30 (by decide) ?_))|((with_reducible refine gR ?_);((first|refine z31 rfl ?_|refine z32 rfl ?_);intro K hK;(conv=>whnf)))|((with_reducible refine gF ?_);((refine z33 rfl ?_);intro K hK;(conv=>whnf)))|((refine NFlat_iff.2 ⟨⟨?s1,?s2⟩,?_⟩;(case s1=>decide +kernel);(case s2=>decide +kernel))<;>(conv=>whnf))|((intro _;skip)<;>(conv=>whnf))))
      refine ⟨.slice none 0 0, rfl, (MemFits.drop [_] [_]).trans ?_⟩
      unfold actRow
      rw [eL]
      exact MemFits.nilRow [RB a E] _ _
end Go.Proofs.Ytlcleiekeapkdaa

