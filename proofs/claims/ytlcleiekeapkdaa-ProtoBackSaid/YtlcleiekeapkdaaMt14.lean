/-
  Matches: read of both readers.
-/
import Derived.Test.YtlcleiekeapkdaaMt13
import Derived.Test.YtlcleiekeapkdaaOct3
namespace Go.Proofs.Ytlcleiekeapkdaa
open Go.Sx
set_option maxRecDepth 20000
set_option linter.unusedSimpArgs false
set_option linter.unusedVariables false
set_option linter.unusedVariables false
namespace Oct
theorem num1_lt (r : R) : (r.num 1).1 < 256 := by
  unfold R.num
  rw [if_neg (by decide)]
  have h := r.take_len 1
  have h1 := val_lt (r.take 1).1
  have : 256 ^ (r.take 1).1.length ≤ 256 ^ 1 := Nat.pow_le_pow_right (by decide) h
  dsimp only
  omega
/-- One byte after the other one. -/
def rsq (r : R) : Nat → R
  | 0 => r
  | k + 1 => ((rsq r k).num 1).2
def nsq (r : R) (k : Nat) : Nat := ((rsq r k).num 1).1
theorem rsq_ok {r : R} (h : r.ok) : ∀ k, (rsq r k).ok
  | 0 => h
  | k + 1 => R.num_keeps (rsq_ok h k)
theorem nsq_lt (r : R) (k : Nat) : nsq r k < 256 := num1_lt _
end Oct
namespace Mt
def rdM (r : Oct.R) : M := ⟨(Oct.nsq r 0 : Int) - 1, Oct.nsq r 1, Oct.nsq r 3, Oct.nsq r 5, Oct.nsq r 7, Oct.nsq r 2, Oct.nsq r 4, Oct.nsq r 6, Oct.nsq r 8⟩
def rdR (r : Oct.R) : Oct.R := if (rdM r).ok then Oct.rsq r 9 else (Oct.rsq r 9).wrong 2
def rdV (r : Oct.R) : M := if (rdR r).bad = 0 then rdM r else ⟨0, 0, 0, 0, 0, 0, 0, 0, 0⟩
theorem rdR_ok {r : Oct.R} (h : r.ok) : (rdR r).ok := by
  unfold rdR
  split
  · exact Oct.rsq_ok h 9
  · exact Oct.R.wrong_ok (Oct.rsq_ok h 9) (by decide)
end Mt
theorem rsq_c (a : Addr) (r : Oct.R) (h : r.ok) (k : Nat) : NCall Try.prog 34 [.ptr 0 a 0, .int .i64 1] [RB a (Oct.rsq r k)] fun v m => v = .int .i64 (Oct.nsq r k : Nat) ∧ m = [RB a (Oct.rsq r (k + 1))] :=
  rnum_c a _ 1 (Oct.rsq_ok h k) (by decide)
theorem rdM_in64 (r : Oct.R) : (Mt.rdM r).in64 := by
  have h := Oct.nsq_lt r
  have h0 := h 0
  have h1 := h 1
  have h2 := h 2
  have h3 := h 3
  have h4 := h 4
  have h5 := h 5
  have h6 := h 6
  have h7 := h 7
  have h8 := h 8
  refine in64_of ?_ ?_ ?_ ?_ ?_ ?_ ?_ ?_ ?_ <;> exact ⟨by omega, by omega⟩
set_option maxHeartbeats 4000000 in
theorem read8_raw (a : Addr) (r : Oct.R) (h : r.ok) : NCall Try.prog 66 [.ptr 0 a 0] [RB a r] fun v m => v = .agg (Mt.rdV r).av ∧ MemFits m [RB a (Mt.rdR r)] := by
  have c0 := rsq_c a r h 0
  have c1 := rsq_c a r h 1
  have c2 := rsq_c a r h 2
  have c3 := rsq_c a r h 3
  have c4 := rsq_c a r h 4
  have c5 := rsq_c a r h 5
  have c6 := rsq_c a r h 6
  have c7 := rsq_c a r h 7
  have c8 := rsq_c a r h 8
  have l0 := Oct.nsq_lt r 0
  have hr := right8_c (Mt.rdM r) (rdM_in64 r)
  have e1 : Mt.rdR r = if (Mt.rdM r).ok then Oct.rsq r 9 else (Oct.rsq r 9).wrong 2 := rfl
  have e2 : Mt.rdV r = if (Mt.rdR r).bad = 0 then Mt.rdM r else ⟨0, 0, 0, 0, 0, 0, 0, 0, 0⟩ := rfl
  have hw := rwrong_c a (Oct.rsq r 9) 2
  have ho := rok_c a (Mt.rdR r)
  have ez : Oct.rsq r 0 = r := rfl
  have ev : (Mt.rdM r).av = [.int .i64 ((Oct.nsq r 0 : Int) - 1), .int .i64 (Oct.nsq r 1 : Nat), .int .i64 (Oct.nsq r 3 : Nat), .int .i64 (Oct.nsq r 5 : Nat), .int .i64 (Oct.nsq r 7 : Nat), .int .i64 (Oct.nsq r 2 : Nat), .int .i64 (Oct.nsq r 4 : Nat), .int .i64 (Oct.nsq r 6 : Nat), .int .i64 (Oct.nsq r 8 : Nat)] := rfl
  have ew : (Oct.rsq r 9).wrong 2 = if (Oct.rsq r 9).bad = 0 then { Oct.rsq r 9 with bad := 2 } else Oct.rsq r 9 := rfl
  rw [ev] at hr
  refine ncall_of Try.func66 rfl (by decide) ?_
  generalize Mt.rdV r = V at *
  generalize Mt.rdR r = R' at *
  generalize Mt.rdM r = M at *
  generalize (Oct.rsq r 9).wrong 2 = rw2 at *
  simp only [show Oct.rsq r 0 = r from rfl] at *
  generalize Oct.rsq r 1 = r1 at *
  generalize Oct.rsq r 2 = r2 at *
  generalize Oct.rsq r 3 = r3 at *
  generalize Oct.rsq r 4 = r4 at *
  generalize Oct.rsq r 5 = r5 at *
  generalize Oct.rsq r 6 = r6 at *
  generalize Oct.rsq r 7 = r7 at *
  generalize Oct.rsq r 8 = r8 at *
  generalize Oct.rsq r 9 = r9 at *
  by_cases hm : M.ok
  · rw [decide_eq_true hm] at hr
    rw [if_pos hm] at e1
    subst e1
    by_cases hb : R'.bad = 0
    · rw [if_pos hb] at e2
      subst e2
      rw [decide_eq_true hb] at ho
      rw [ev]
      (repeat' (first|(with_reducible first|(refine hK _ _ ?_;clear hK K)|(refine hA ?_;clear hA hB A B)|(refine hB ?_;clear hA hB A B)|(refine hK _ ?_;clear hK K))|((with_reducible refine gO ?_);(first|((with_reducible first|refine z25 ?_|refine z26 ?_);intro K hK;(conv=>whnf))|(with_reducible first|refine z0 ?_)))|((with_reducible refine gP ?_);(first|((with_reducible first|refine z27 ?_|refine z28 ?_);intro K hK;(conv=>whnf))|(with_reducible first|refine z24 ?_)))|((first|((with_reducible refine gV ?_);(first|((with_reducible first|refine NV.quo ?s ?_|refine NV.rem ?s ?_|refine NV.i64 ?s ?_|refine NV.u32 ?s ?_|refine NV.u8 ?s ?_|refine NV.u64 ?s ?_);case s=>omega)|(with_reducible first|refine NV.divk ?_|refine NV.modk ?_|refine NV.keep ?_)))|((with_reducible refine gI ?_);(first|with_reducible refine NIf.not_ ?_|((with_reducible refine NIf.decY ?s ?_);case s=>first|with_reducible rfl|assumption|omega)|((with_reducible refine NIf.decN ?s ?_);case s=>first|with_reducible rfl|assumption|omega)|((with_reducible refine NIf.yes ?s ?_);case s=>first|rfl|assumption)|((with_reducible refine NIf.no ?s ?_);case s=>first|rfl|assumption)|(with_reducible first|refine NIf.dec (fun _=>?_) (fun _=>?_)|refine NIf.both (fun _=>?_) (fun _=>?_))))|((with_reducible refine gN ?_);(with_reducible first|refine NN.lit ?_|refine NN.cast ?_|refine NN.a1 ?_|refine NN.a2 ?_|refine NN.a3 ?_|refine NN.a4 ?_|refine NN.a5 ?_|refine NN.a6 ?_|refine NN.keep ?_))|((with_reducible refine gH ?_);((with_reducible refine NH.mk ?s ?_);case s=>(and_intros<;>first|with_reducible rfl|((with_reducible refine gOnes ?_);rfl)|((with_reducible refine gLen ?_);rfl)|omega|assumption|exact Nat.le_of_ble_eq_true rfl|(simp only [List.length_append, List.length_cons, List.length_nil]; omega)|rfl)))|((with_reducible refine gC ?_);(first|((with_reducible refine NCall.isF 34 ?_);refine NCall.subE [0] (c0) rfl (by decide) rfl rfl ?_)|((with_reducible refine NCall.isF 34 ?_);refine NCall.subE [0] (c1) rfl (by decide) rfl rfl ?_)|((with_reducible refine NCall.isF 34 ?_);refine NCall.subE [0] (c2) rfl (by decide) rfl rfl ?_)|((with_reducible refine NCall.isF 34 ?_);refine NCall.subE [0] (c3) rfl (by decide) rfl rfl ?_)|((with_reducible refine NCall.isF 34 ?_);refine NCall.subE [0] (c4) rfl (by decide) rfl rfl ?_)|((with_reducible refine NCall.isF 34 ?_);refine NCall.subE [0] (c5) rfl (by decide) rfl rfl ?_)|((with_reducible refine NCall.isF 34 ?_);refine NCall.subE [0] (c6) rfl (by decide) rfl rfl ?_)|((with_reducible refine NCall.isF 34 ?_);refine NCall.subE [0] (c7) rfl (by decide) rfl rfl ?_)|((with_reducible refine NCall.isF 34 ?_);refine NCall.subE [0] (c8) rfl (by decide) rfl rfl ?_)|((with_reducible refine NCall.isF 56 ?_);refine NCall.pureE (hr) ?_)|((with_reducible refine NCall.isF 37 ?_);refine NCall.subE [0] (ho) rfl (by decide) rfl rfl ?_)))|(with_reducible refine NS.keep ?_)|(with_reducible refine NLd.of (by with_reducible assumption) ?_))<;>(conv=>whnf))|((with_reducible refine gX ?_);(first|(with_reducible refine st_rounds 5 ?_)|(with_reducible first|refine z3 ?_|refine z4 ?_|refine z5 ?_|refine z6 ?_|refine z7 ?_|refine z8 ?_|refine z14 ?_|refine z15 ?_)|((with_reducible refine z29 ?_);intro A B hA hB;(conv=>whnf))|(refine z34 (by kernel_rfl) (by kernel_rfl) ?_)))|(with_reducible first|refine z1 ?_|refine z2 ?_|refine z9 ?_|refine z10 ?_|refine z11 ?_|refine z12 ?_|refine z13 ?_|refine z16 ?_|refine z17 ?_|refine z18 ?_|refine z19 ?_|refine z20 ?_|refine z21 ?_|refine z22 ?_|refine z23 ?_)|((with_reducible refine gB ?_);(refine z30 (by decide) ?_))|((with_reducible refine gR ?_);((first|refine z31 rfl ?_|refine z32 rfl ?_);intro K hK;(conv=>whnf)))|((with_reducible refine gF ?_);((refine z33 rfl ?_);intro K hK;(conv=>whnf)))|((refine NFlat_iff.2 ⟨⟨?s1,?s2⟩,?_⟩;(case s1=>decide +kernel);(case s2=>decide +kernel))<;>(conv=>whnf))|((intro _;skip)<;>(conv=>whnf))))
      all_goals exact ⟨rfl, MemFits.drop [_] [_, _]⟩
    · rw [if_neg hb] at e2
      subst e2
      rw [decide_eq_false hb] at ho
      (repeat' (first|(with_reducible first|(refine hK _ _ ?_;clear hK K)|(refine hA ?_;clear hA hB A B)|(refine hB ?_;clear hA hB A B)|(refine hK _ ?_;clear hK K))|((with_reducible refine gO ?_);(first|((with_reducible first|refine z25 ?_|refine z26 ?_);intro K hK;(conv=>whnf))|(with_reducible first|refine z0 ?_)))|((with_reducible refine gP ?_);(first|((with_reducible first|refine z27 ?_|refine z28 ?_);intro K hK;(conv=>whnf))|(with_reducible first|refine z24 ?_)))|((first|((with_reducible refine gV ?_);(first|((with_reducible first|refine NV.quo ?s ?_|refine NV.rem ?s ?_|refine NV.i64 ?s ?_|refine NV.u32 ?s ?_|refine NV.u8 ?s ?_|refine NV.u64 ?s ?_);case s=>omega)|(with_reducible first|refine NV.divk ?_|refine NV.modk ?_|refine NV.keep ?_)))|((with_reducible refine gI ?_);(first|with_reducible refine NIf.not_ ?_|((with_reducible refine NIf.decY ?s ?_);case s=>first|with_reducible rfl|assumption|omega)|((with_reducible refine NIf.decN ?s ?_);case s=>first|with_reducible rfl|assumption|omega)|((with_reducible refine NIf.yes ?s ?_);case s=>first|rfl|assumption)|((with_reducible refine NIf.no ?s ?_);case s=>first|rfl|assumption)|(with_reducible first|refine NIf.dec (fun _=>?_) (fun _=>?_)|refine NIf.both (fun _=>?_) (fun _=>?_))))|((with_reducible refine gN ?_);(with_reducible first|refine NN.lit ?_|refine NN.cast ?_|refine NN.a1 ?_|refine NN.a2 ?_|refine NN.a3 ?_|refine NN.a4 ?_|refine NN.a5 ?_|refine NN.a6 ?_|refine NN.keep ?_))|((with_reducible refine gH ?_);((with_reducible refine NH.mk ?s ?_);case s=>(and_intros<;>first|with_reducible rfl|((with_reducible refine gOnes ?_);rfl)|((with_reducible refine gLen ?_);rfl)|omega|assumption|exact Nat.le_of_ble_eq_true rfl|(simp only [List.length_append, List.length_cons, List.length_nil]; omega)|rfl)))|((with_reducible refine gC ?_);(first|((with_reducible refine NCall.isF 34 ?_);refine NCall.subE [0] (c0) rfl (by decide) rfl rfl ?_)|((with_reducible refine NCall.isF 34 ?_);refine NCall.subE [0] (c1) rfl (by decide) rfl rfl ?_)|((with_reducible refine NCall.isF 34 ?_);refine NCall.subE [0] (c2) rfl (by decide) rfl rfl ?_)|((with_reducible refine NCall.isF 34 ?_);refine NCall.subE [0] (c3) rfl (by decide) rfl rfl ?_)|((with_reducible refine NCall.isF 34 ?_);refine NCall.subE [0] (c4) rfl (by decide) rfl rfl ?_)|((with_reducible refine NCall.isF 34 ?_);refine NCall.subE [0] (c5) rfl (by decide) rfl rfl ?_)|((with_reducible refine NCall.isF 34 ?_);refine NCall.subE [0] (c6) rfl (by decide) rfl rfl ?_)|((with_reducible refine NCall.isF 34 ?_);refine NCall.subE [0] (c7) rfl (by decide) rfl rfl ?_)|((with_reducible refine NCall.isF 34 ?_);refine NCall.subE [0] (c8) rfl (by decide) rfl rfl ?_)|((with_reducible refine NCall.isF 56 ?_);refine NCall.pureE (hr) ?_)|((with_reducible refine NCall.isF 37 ?_);refine NCall.subE [0] (ho) rfl (by decide) rfl rfl ?_)))|(with_reducible refine NS.keep ?_)|(with_reducible refine NLd.of (by with_reducible assumption) ?_))<;>(conv=>whnf))|((with_reducible refine gX ?_);(first|(with_reducible refine st_rounds 5 ?_)|(with_reducible first|refine z3 ?_|refine z4 ?_|refine z5 ?_|refine z6 ?_|refine z7 ?_|refine z8 ?_|refine z14 ?_|refine z15 ?_)|((with_reducible refine z29 ?_);intro A B hA hB;(conv=>whnf))|(refine z34 (by kernel_rfl) (by kernel_rfl) ?_)))|(with_reducible first|refine z1 ?_|refine z2 ?_|refine z9 ?_|refine z10 ?_|refine z11 ?_|refine z12 ?_|refine z13 ?_|refine z16 ?_|refine z17 ?_|refine z18 ?_|refine z19 ?_|refine z20 ?_|refine z21 ?_|refine z22 ?_|refine z23 ?_)|((with_reducible refine gB ?_);(refine z30 (by decide) ?_))|((with_reducible refine gR ?_);((first|refine z31 rfl ?_|refine z32 rfl ?_);intro K hK;(conv=>whnf)))|((with_reducible refine gF ?_);((refine z33 rfl ?_);intro K hK;(conv=>whnf)))|((refine NFlat_iff.2 ⟨⟨?s1,?s2⟩,?_⟩;(case s1=>decide +kernel);(case s2=>decide +kernel))<;>(conv=>whnf))|((intro _;skip)<;>(conv=>whnf))))
      all_goals exact ⟨rfl, MemFits.drop [_] [_, _]⟩
  · rw [decide_eq_false hm] at hr
    rw [if_neg hm] at e1
    subst e1
    have hb : ¬ R'.bad = 0 := by
      rw [ew]
      split
      · intro hx; cases hx
      · assumption
    rw [if_neg hb] at e2
    subst e2
    rw [decide_eq_false hb] at ho
    (repeat' (first|(with_reducible first|(refine hK _ _ ?_;clear hK K)|(refine hA ?_;clear hA hB A B)|(refine hB ?_;clear hA hB A B)|(refine hK _ ?_;clear hK K))|((with_reducible refine gO ?_);(first|((with_reducible first|refine z25 ?_|refine z26 ?_);intro K hK;(conv=>whnf))|(with_reducible first|refine z0 ?_)))|((with_reducible refine gP ?_);(first|((with_reducible first|refine z27 ?_|refine z28 ?_);intro K hK;(conv=>whnf))|(with_reducible first|refine z24 ?_)))|((first|((with_reducible refine gV ?_);(first|((with_reducible first|refine NV.quo ?s ?_|refine NV.rem ?s ?_|refine NV.i64 ?s ?_|refine NV.u32 ?s ?_|refine NV.u8 ?s ?_|refine NV.u64 ?s ?_);case s=>omega)|(with_reducible first|refine NV.divk ?_|refine NV.modk ?_|refine NV.keep ?_)))|((with_reducible refine gI ?_);(first|with_reducible refine NIf.not_ ?_|((with_reducible refine NIf.decY ?s ?_);case s=>first|with_reducible rfl|assumption|omega)|((with_reducible refine NIf.decN ?s ?_);case s=>first|with_reducible rfl|assumption|omega)|((with_reducible refine NIf.yes ?s ?_);case s=>first|rfl|assumption)|((with_reducible refine NIf.no ?s ?_);case s=>first|rfl|assumption)|(with_reducible first|refine NIf.dec (fun _=>?_) (fun _=>?_)|refine NIf.both (fun _=>?_) (fun _=>?_))))|((with_reducible refine gN ?_);(with_reducible first|refine NN.lit ?_|refine NN.cast ?_|refine NN.a1 ?_|refine NN.a2 ?_|refine NN.a3 ?_|refine NN.a4 ?_|refine NN.a5 ?_|refine NN.a6 ?_|refine NN.keep ?_))|((with_reducible refine gH ?_);((with_reducible refine NH.mk ?s ?_);case s=>(and_intros<;>first|with_reducible rfl|((with_reducible refine gOnes ?_);rfl)|((with_reducible refine gLen ?_);rfl)|omega|assumption|exact Nat.le_of_ble_eq_true rfl|(simp only [List.length_append, List.length_cons, List.length_nil]; omega)|rfl)))|((with_reducible refine gC ?_);(first|((with_reducible refine NCall.isF 34 ?_);refine NCall.subE [0] (c0) rfl (by decide) rfl rfl ?_)|((with_reducible refine NCall.isF 34 ?_);refine NCall.subE [0] (c1) rfl (by decide) rfl rfl ?_)|((with_reducible refine NCall.isF 34 ?_);refine NCall.subE [0] (c2) rfl (by decide) rfl rfl ?_)|((with_reducible refine NCall.isF 34 ?_);refine NCall.subE [0] (c3) rfl (by decide) rfl rfl ?_)|((with_reducible refine NCall.isF 34 ?_);refine NCall.subE [0] (c4) rfl (by decide) rfl rfl ?_)|((with_reducible refine NCall.isF 34 ?_);refine NCall.subE [0] (c5) rfl (by decide) rfl rfl ?_)|((with_reducible refine NCall.isF 34 ?_);refine NCall.subE [0] (c6) rfl (by decide) rfl rfl ?_)|((with_reducible refine NCall.isF 34 ?_);refine NCall.subE [0] (c7) rfl (by decide) rfl rfl ?_)|((with_reducible refine NCall.isF 34 ?_);refine NCall.subE [0] (c8) rfl (by decide) rfl rfl ?_)|((with_reducible refine NCall.isF 56 ?_);refine NCall.pureE (hr) ?_)|((with_reducible refine NCall.isF 37 ?_);refine NCall.subE [0] (ho) rfl (by decide) rfl rfl ?_)|((with_reducible refine NCall.isF 35 ?_);refine NCall.subw [0] _ _ (hw) rfl (by decide) rfl ?_; rintro _ _ rfl; refine ⟨Nat.le_of_ble_eq_true rfl, _, rfl, ?_⟩)))|(with_reducible refine NS.keep ?_)|(with_reducible refine NLd.of (by with_reducible assumption) ?_))<;>(conv=>whnf))|((with_reducible refine gX ?_);(first|(with_reducible refine st_rounds 5 ?_)|(with_reducible first|refine z3 ?_|refine z4 ?_|refine z5 ?_|refine z6 ?_|refine z7 ?_|refine z8 ?_|refine z14 ?_|refine z15 ?_)|((with_reducible refine z29 ?_);intro A B hA hB;(conv=>whnf))|(refine z34 (by kernel_rfl) (by kernel_rfl) ?_)))|(with_reducible first|refine z1 ?_|refine z2 ?_|refine z9 ?_|refine z10 ?_|refine z11 ?_|refine z12 ?_|refine z13 ?_|refine z16 ?_|refine z17 ?_|refine z18 ?_|refine z19 ?_|refine z20 ?_|refine z21 ?_|refine z22 ?_|refine z23 ?_)|((with_reducible refine gB ?_);(refine z30 (by decide) ?_))|((with_reducible refine gR ?_);((first|refine z31 rfl ?_|refine z32 rfl ?_);intro K hK;(conv=>whnf)))|((with_reducible refine gF ?_);((refine z33 rfl ?_);intro K hK;(conv=>whnf)))|((refine NFlat_iff.2 ⟨⟨?s1,?s2⟩,?_⟩;(case s1=>decide +kernel);(case s2=>decide +kernel))<;>(conv=>whnf))|((intro _;skip)<;>(conv=>whnf))))
    all_goals exact ⟨rfl, MemFits.drop [_] [_, _]⟩
end Go.Proofs.Ytlcleiekeapkdaa

