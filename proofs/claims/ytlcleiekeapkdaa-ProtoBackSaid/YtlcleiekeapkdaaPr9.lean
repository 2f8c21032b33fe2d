/-
  Messages, read: walked.
-/
import Derived.Test.YtlcleiekeapkdaaPr9p

namespace Go.Proofs.Ytlcleiekeapkdaa
open Go.Sx
set_option maxRecDepth 20000
set_option linter.unusedSimpArgs false
set_option linter.unusedVariables false
set_option maxHeartbeats 4000000
set_option linter.unusedVariables false
namespace Pr
/-- Changes, each with the slice in which its acts lie: their cells. -/
def psC (ps : List (Md × Value)) : List AV := ps.flatMap fun p => mdC p.1 p.2
def psV (p : Md × Value) : List Value := denL (mdC p.1 p.2)
theorem psC_den : ∀ ps, denL (psC ps) = ps.flatMap psV
  | [] => rfl
  | p :: ps => by
    have := psC_den ps
    unfold psC at *
    rw [List.flatMap_cons, List.flatMap_cons, denL_append, this]
    rfl
theorem psC_len (ps : List (Md × Value)) : (psC ps).length = ps.length * 13 := by
  induction ps with
  | nil => rfl
  | cons p ps ih =>
    unfold psC at *
    rw [List.flatMap_cons, List.length_append, ih, List.length_cons]
    show 13 + _ = _
    omega
theorem psC_next (ps : List (Md × Value)) (p : Md × Value) : psC (ps ++ [p]) = psC ps ++ mdC p.1 p.2 := by
  unfold psC
  rw [List.flatMap_append]
  simp
end Pr
/-- What a message that is read stands for. -/
def Pr.Got (F : Heap) (a : Addr) (X : Pr.Ms) (E : Oct.R) (v : AV) (m : List Blk) : Prop :=
  ∃ F' u, ∃ ps : List (Pr.Md × Value), F.le F' ∧ ps.map (·.1) = X.mods ∧ (∀ p ∈ ps, Ru.RowA F' p.2 p.1.r) ∧ v.den = (AV.agg (X.cs u)).den ∧ MemFits m [hpB F', ⟨addrOf u, Pr.psC ps, .row u 42 13 ps.length⟩, RB a E]
theorem Pr.got_none {F : Heap} {a : Addr} {X : Pr.Ms} {E : Oct.R} {v : AV} {m : List Blk} (hx : X.mods = []) (hv : v.den = (AV.agg (X.cs (.slice none 0 0))).den) (hm : MemFits m [hpB F, RB a E]) : Pr.Got F a X E v m :=
  ⟨F, .slice none 0 0, [], F.le_refl, by rw [hx]; rfl, fun p hp => by simp at hp, hv, hm.trans ((MemFits.nilRow _ 42 13).trans (MemFits.pick [0, 2, 1] (by decide) rfl))⟩
theorem read16_1 (F : Heap) (a : Addr) (r : Oct.R) (h : r.ok) (sw : Int) :
    NCall Try.prog 36 [.ptr 1 a 0, .agg [.int .i64 1, .int .i64 sw, .int .i64 0, .int .i64 0, .int .i64 0, .int .i64 0, .int .i64 0, .int .i64 0, .int .i64 0, .raw (.slice none 0 0)]] [hpB F, RB a r] fun v m => Pr.Got F a (Pr.msV 1 sw r) (Pr.e8 1 r) v m := by
  have c1 := rint_c a r h
  have ch : NCall Try.prog 16 [.int .i64 1] [] fun r _ => r = .int .i64 1 := has_c 1
  have hX : Pr.msV 1 sw r = ⟨1, sw, 0, 0, (r.int).1, 0, 0, 0, 0, []⟩ := rfl
  have hE : Pr.e8 1 r = (r.int).2 := rfl
  have b1 : bitv .and .i64 1 1 = 1 := by decide +kernel
  have b2 : bitv .and .i64 1 2 = 0 := by decide +kernel
  have b4 : bitv .and .i64 1 4 = 0 := by decide +kernel
  have b8 : bitv .and .i64 1 8 = 0 := by decide +kernel
  have b16 : bitv .and .i64 1 16 = 0 := by decide +kernel
  have b32 : bitv .and .i64 1 32 = 0 := by decide +kernel
  have b64 : bitv .and .i64 1 64 = 0 := by decide +kernel
  have b128 : bitv .and .i64 1 128 = 0 := by decide +kernel
  rw [hX, hE]
  clear hX hE
  generalize (r.int).1 = v1 at *
  generalize (r.int).2 = s1 at *
  refine ncall_of Try.func36 rfl (by decide) ?_
  (repeat' (first|(with_reducible first|(refine hK _ _ ?_;clear hK K)|(refine hA ?_;clear hA hB A B)|(refine hB ?_;clear hA hB A B)|(refine hK _ ?_;clear hK K))|((with_reducible refine gO ?_);(first|((with_reducible first|refine z25 ?_|refine z26 ?_);intro K hK;(conv=>whnf))|(with_reducible first|refine z0 ?_)))|((first|((with_reducible refine gV ?_);(first|((with_reducible refine NV.eq (b1) ?_))|((with_reducible refine NV.eq (b2) ?_))|((with_reducible refine NV.eq (b4) ?_))|((with_reducible refine NV.eq (b8) ?_))|((with_reducible refine NV.eq (b16) ?_))|((with_reducible refine NV.eq (b32) ?_))|((with_reducible refine NV.eq (b64) ?_))|((with_reducible refine NV.eq (b128) ?_))|((with_reducible first|refine NV.quo ?s ?_|refine NV.rem ?s ?_|refine NV.i64 ?s ?_|refine NV.u32 ?s ?_|refine NV.u8 ?s ?_|refine NV.u64 ?s ?_);case s=>omega)|(with_reducible first|refine NV.divk ?_|refine NV.modk ?_|refine NV.keep ?_)))|((with_reducible refine gI ?_);(first|with_reducible refine NIf.not_ ?_|((with_reducible refine NIf.decY ?s ?_);case s=>first|with_reducible rfl|assumption|omega)|((with_reducible refine NIf.decN ?s ?_);case s=>first|with_reducible rfl|assumption|omega)|((with_reducible refine NIf.yes ?s ?_);case s=>first|rfl|assumption)|((with_reducible refine NIf.no ?s ?_);case s=>first|rfl|assumption)|(with_reducible first|refine NIf.dec (fun _=>?_) (fun _=>?_)|refine NIf.both (fun _=>?_) (fun _=>?_))))|((with_reducible refine gN ?_);(with_reducible first|refine NN.lit ?_|refine NN.cast ?_|refine NN.a1 ?_|refine NN.a2 ?_|refine NN.a3 ?_|refine NN.a4 ?_|refine NN.a5 ?_|refine NN.a6 ?_|refine NN.keep ?_))|((with_reducible refine gH ?_);((with_reducible refine NH.mk ?s ?_);case s=>(and_intros<;>first|with_reducible rfl|((with_reducible refine gOnes ?_);rfl)|((with_reducible refine gLen ?_);rfl)|omega|assumption|exact Nat.le_of_ble_eq_true rfl|(simp only [List.length_append, List.length_cons, List.length_nil]; omega)|rfl)))|((with_reducible refine gC ?_);(first|((with_reducible refine NCall.isF 16 ?_);refine NCall.pureE (ch) ?_)|((with_reducible refine NCall.isF 52 ?_);refine NCall.subE [1] (c1) rfl (by decide) rfl rfl ?_)))|(with_reducible refine NS.keep ?_)|(with_reducible refine NLd.of (by with_reducible assumption) ?_))<;>(conv=>whnf))|((with_reducible refine gNO ?_);(first|(refine z36 rfl (by kernel_rfl) ?_; intro K hK; (conv=>whnf))|(refine z37 rfl (by kernel_rfl) ?_; intro K hK; (conv=>whnf))|(refine z38 rfl (by kernel_rfl) ?_)|(refine z39 rfl rfl (by kernel_rfl) (by intro h; cases h) ?_)))|((with_reducible refine gNE ?_);(first|(refine z40 ?_ ?_; (intro K hK; (conv=>whnf)))|(refine z41 ?_ ?_; (intro K hK; (conv=>whnf)))|exact z42))|((with_reducible refine gX ?_);(first|(refine z35 (by kernel_rfl) _ rfl ?_)|(with_reducible first|refine z3 ?_|refine z4 ?_|refine z5 ?_|refine z6 ?_|refine z7 ?_|refine z8 ?_|refine z14 ?_|refine z15 ?_)|((with_reducible refine z29 ?_);intro A B hA hB;(conv=>whnf))))|(with_reducible first|refine z1 ?_|refine z2 ?_|refine z9 ?_|refine z10 ?_|refine z11 ?_|refine z12 ?_|refine z13 ?_|refine z16 ?_|refine z17 ?_|refine z18 ?_|refine z19 ?_|refine z20 ?_|refine z21 ?_|refine z22 ?_|refine z23 ?_)|((with_reducible refine gB ?_);(refine z30 (by decide) ?_))|((with_reducible refine gR ?_);((first|refine z31 rfl ?_|refine z32 rfl ?_);intro K hK;(conv=>whnf)))|((with_reducible refine gF ?_);((refine z33 rfl ?_);intro K hK;(conv=>whnf)))|((refine NFlat_iff.2 ⟨⟨?s1,?s2⟩,?_⟩;(case s1=>decide +kernel);(case s2=>decide +kernel))<;>(conv=>whnf))|((intro _;skip)<;>(conv=>whnf))))
  all_goals exact Pr.got_none rfl rfl (MemFits.pre 2 rfl)
theorem read16_2 (F : Heap) (a : Addr) (r : Oct.R) (h : r.ok) (sw : Int) :
    NCall Try.prog 36 [.ptr 1 a 0, .agg [.int .i64 2, .int .i64 sw, .int .i64 0, .int .i64 0, .int .i64 0, .int .i64 0, .int .i64 0, .int .i64 0, .int .i64 0, .raw (.slice none 0 0)]] [hpB F, RB a r] fun v m => Pr.Got F a (Pr.msV 2 sw r) (Pr.e8 2 r) v m := by
  have c1 := rint_c a r h
  have c2 := rint_c a (r.int).2 (Pr.int_keeps h)
  have c3 := rnum_c a ((r.int).2.int).2 2 (Pr.int_keeps (Pr.int_keeps h)) (by decide)
  have ch : NCall Try.prog 16 [.int .i64 2] [] fun r _ => r = .int .i64 7 := has_c 2
  have hX : Pr.msV 2 sw r = ⟨2, sw, 0, 0, (r.int).1, ((r.int).2.int).1, (((((r.int).2.int).2.num 2).1 : Nat) : Int), 0, 0, []⟩ := rfl
  have hE : Pr.e8 2 r = (((r.int).2.int).2.num 2).2 := rfl
  have b1 : bitv .and .i64 7 1 = 1 := by decide +kernel
  have b2 : bitv .and .i64 7 2 = 2 := by decide +kernel
  have b4 : bitv .and .i64 7 4 = 4 := by decide +kernel
  have b8 : bitv .and .i64 7 8 = 0 := by decide +kernel
  have b16 : bitv .and .i64 7 16 = 0 := by decide +kernel
  have b32 : bitv .and .i64 7 32 = 0 := by decide +kernel
  have b64 : bitv .and .i64 7 64 = 0 := by decide +kernel
  have b128 : bitv .and .i64 7 128 = 0 := by decide +kernel
  rw [hX, hE]
  clear hX hE
  have n3 : (((r.int).2.int).2.num 2).1 < 72057594037927936 := Oct.R.num_lt _ _
  generalize (((r.int).2.int).2.num 2).1 = v3 at *
  generalize (((r.int).2.int).2.num 2).2 = s3 at *
  generalize ((r.int).2.int).1 = v2 at *
  generalize ((r.int).2.int).2 = s2 at *
  generalize (r.int).1 = v1 at *
  generalize (r.int).2 = s1 at *
  refine ncall_of Try.func36 rfl (by decide) ?_
  (repeat' (first|(with_reducible first|(refine hK _ _ ?_;clear hK K)|(refine hA ?_;clear hA hB A B)|(refine hB ?_;clear hA hB A B)|(refine hK _ ?_;clear hK K))|((with_reducible refine gO ?_);(first|((with_reducible first|refine z25 ?_|refine z26 ?_);intro K hK;(conv=>whnf))|(with_reducible first|refine z0 ?_)))|((first|((with_reducible refine gV ?_);(first|((with_reducible refine NV.eq (b1) ?_))|((with_reducible refine NV.eq (b2) ?_))|((with_reducible refine NV.eq (b4) ?_))|((with_reducible refine NV.eq (b8) ?_))|((with_reducible refine NV.eq (b16) ?_))|((with_reducible refine NV.eq (b32) ?_))|((with_reducible refine NV.eq (b64) ?_))|((with_reducible refine NV.eq (b128) ?_))|((with_reducible first|refine NV.quo ?s ?_|refine NV.rem ?s ?_|refine NV.i64 ?s ?_|refine NV.u32 ?s ?_|refine NV.u8 ?s ?_|refine NV.u64 ?s ?_);case s=>omega)|(with_reducible first|refine NV.divk ?_|refine NV.modk ?_|refine NV.keep ?_)))|((with_reducible refine gI ?_);(first|with_reducible refine NIf.not_ ?_|((with_reducible refine NIf.decY ?s ?_);case s=>first|with_reducible rfl|assumption|omega)|((with_reducible refine NIf.decN ?s ?_);case s=>first|with_reducible rfl|assumption|omega)|((with_reducible refine NIf.yes ?s ?_);case s=>first|rfl|assumption)|((with_reducible refine NIf.no ?s ?_);case s=>first|rfl|assumption)|(with_reducible first|refine NIf.dec (fun _=>?_) (fun _=>?_)|refine NIf.both (fun _=>?_) (fun _=>?_))))|((with_reducible refine gN ?_);(with_reducible first|refine NN.lit ?_|refine NN.cast ?_|refine NN.a1 ?_|refine NN.a2 ?_|refine NN.a3 ?_|refine NN.a4 ?_|refine NN.a5 ?_|refine NN.a6 ?_|refine NN.keep ?_))|((with_reducible refine gH ?_);((with_reducible refine NH.mk ?s ?_);case s=>(and_intros<;>first|with_reducible rfl|((with_reducible refine gOnes ?_);rfl)|((with_reducible refine gLen ?_);rfl)|omega|assumption|exact Nat.le_of_ble_eq_true rfl|(simp only [List.length_append, List.length_cons, List.length_nil]; omega)|rfl)))|((with_reducible refine gC ?_);(first|((with_reducible refine NCall.isF 16 ?_);refine NCall.pureE (ch) ?_)|((with_reducible refine NCall.isF 52 ?_);refine NCall.subE [1] (c1) rfl (by decide) rfl rfl ?_)|((with_reducible refine NCall.isF 52 ?_);refine NCall.subE [1] (c2) rfl (by decide) rfl rfl ?_)|((with_reducible refine NCall.isF 34 ?_);refine NCall.subE [1] (c3) rfl (by decide) rfl rfl ?_)))|(with_reducible refine NS.keep ?_)|(with_reducible refine NLd.of (by with_reducible assumption) ?_))<;>(conv=>whnf))|((with_reducible refine gNO ?_);(first|(refine z36 rfl (by kernel_rfl) ?_; intro K hK; (conv=>whnf))|(refine z37 rfl (by kernel_rfl) ?_; intro K hK; (conv=>whnf))|(refine z38 rfl (by kernel_rfl) ?_)|(refine z39 rfl rfl (by kernel_rfl) (by intro h; cases h) ?_)))|((with_reducible refine gNE ?_);(first|(refine z40 ?_ ?_; (intro K hK; (conv=>whnf)))|(refine z41 ?_ ?_; (intro K hK; (conv=>whnf)))|exact z42))|((with_reducible refine gX ?_);(first|(refine z35 (by kernel_rfl) _ rfl ?_)|(with_reducible first|refine z3 ?_|refine z4 ?_|refine z5 ?_|refine z6 ?_|refine z7 ?_|refine z8 ?_|refine z14 ?_|refine z15 ?_)|((with_reducible refine z29 ?_);intro A B hA hB;(conv=>whnf))))|(with_reducible first|refine z1 ?_|refine z2 ?_|refine z9 ?_|refine z10 ?_|refine z11 ?_|refine z12 ?_|refine z13 ?_|refine z16 ?_|refine z17 ?_|refine z18 ?_|refine z19 ?_|refine z20 ?_|refine z21 ?_|refine z22 ?_|refine z23 ?_)|((with_reducible refine gB ?_);(refine z30 (by decide) ?_))|((with_reducible refine gR ?_);((first|refine z31 rfl ?_|refine z32 rfl ?_);intro K hK;(conv=>whnf)))|((with_reducible refine gF ?_);((refine z33 rfl ?_);intro K hK;(conv=>whnf)))|((refine NFlat_iff.2 ⟨⟨?s1,?s2⟩,?_⟩;(case s1=>decide +kernel);(case s2=>decide +kernel))<;>(conv=>whnf))|((intro _;skip)<;>(conv=>whnf))))
  all_goals exact Pr.got_none rfl rfl (MemFits.pre 2 rfl)
theorem read16_4 (F : Heap) (a : Addr) (r : Oct.R) (h : r.ok) (sw : Int) :
    NCall Try.prog 36 [.ptr 1 a 0, .agg [.int .i64 4, .int .i64 sw, .int .i64 0, .int .i64 0, .int .i64 0, .int .i64 0, .int .i64 0, .int .i64 0, .int .i64 0, .raw (.slice none 0 0)]] [hpB F, RB a r] fun v m => Pr.Got F a (Pr.msV 4 sw r) (Pr.e8 4 r) v m := by
  have c1 := rint_c a r h
  have c2 := rnum_c a (r.int).2 2 (Pr.int_keeps h) (by decide)
  have c3 := rnum_c a ((r.int).2.num 2).2 1 (Oct.R.num_keeps (Pr.int_keeps h)) (by decide)
  have ch : NCall Try.prog 16 [.int .i64 4] [] fun r _ => r = .int .i64 26 := has_c 4
  have hX : Pr.msV 4 sw r = ⟨4, sw, ((((r.int).2.num 2).1 : Nat) : Int), (((((r.int).2.num 2).2.num 1).1 : Nat) : Int) - 1, 0, (r.int).1, 0, 0, 0, []⟩ := rfl
  have hE : Pr.e8 4 r = (((r.int).2.num 2).2.num 1).2 := rfl
  have b1 : bitv .and .i64 26 1 = 0 := by decide +kernel
  have b2 : bitv .and .i64 26 2 = 2 := by decide +kernel
  have b4 : bitv .and .i64 26 4 = 0 := by decide +kernel
  have b8 : bitv .and .i64 26 8 = 8 := by decide +kernel
  have b16 : bitv .and .i64 26 16 = 16 := by decide +kernel
  have b32 : bitv .and .i64 26 32 = 0 := by decide +kernel
  have b64 : bitv .and .i64 26 64 = 0 := by decide +kernel
  have b128 : bitv .and .i64 26 128 = 0 := by decide +kernel
  rw [hX, hE]
  clear hX hE
  have n3 : (((r.int).2.num 2).2.num 1).1 < 72057594037927936 := Oct.R.num_lt _ _
  have n2 : ((r.int).2.num 2).1 < 72057594037927936 := Oct.R.num_lt _ _
  generalize (((r.int).2.num 2).2.num 1).1 = v3 at *
  generalize (((r.int).2.num 2).2.num 1).2 = s3 at *
  generalize ((r.int).2.num 2).1 = v2 at *
  generalize ((r.int).2.num 2).2 = s2 at *
  generalize (r.int).1 = v1 at *
  generalize (r.int).2 = s1 at *
  refine ncall_of Try.func36 rfl (by decide) ?_
  (repeat' (first|(with_reducible first|(refine hK _ _ ?_;clear hK K)|(refine hA ?_;clear hA hB A B)|(refine hB ?_;clear hA hB A B)|(refine hK _ ?_;clear hK K))|((with_reducible refine gO ?_);(first|((with_reducible first|refine z25 ?_|refine z26 ?_);intro K hK;(conv=>whnf))|(with_reducible first|refine z0 ?_)))|((first|((with_reducible refine gV ?_);(first|((with_reducible refine NV.eq (b1) ?_))|((with_reducible refine NV.eq (b2) ?_))|((with_reducible refine NV.eq (b4) ?_))|((with_reducible refine NV.eq (b8) ?_))|((with_reducible refine NV.eq (b16) ?_))|((with_reducible refine NV.eq (b32) ?_))|((with_reducible refine NV.eq (b64) ?_))|((with_reducible refine NV.eq (b128) ?_))|((with_reducible first|refine NV.quo ?s ?_|refine NV.rem ?s ?_|refine NV.i64 ?s ?_|refine NV.u32 ?s ?_|refine NV.u8 ?s ?_|refine NV.u64 ?s ?_);case s=>omega)|(with_reducible first|refine NV.divk ?_|refine NV.modk ?_|refine NV.keep ?_)))|((with_reducible refine gI ?_);(first|with_reducible refine NIf.not_ ?_|((with_reducible refine NIf.decY ?s ?_);case s=>first|with_reducible rfl|assumption|omega)|((with_reducible refine NIf.decN ?s ?_);case s=>first|with_reducible rfl|assumption|omega)|((with_reducible refine NIf.yes ?s ?_);case s=>first|rfl|assumption)|((with_reducible refine NIf.no ?s ?_);case s=>first|rfl|assumption)|(with_reducible first|refine NIf.dec (fun _=>?_) (fun _=>?_)|refine NIf.both (fun _=>?_) (fun _=>?_))))|((with_reducible refine gN ?_);(with_reducible first|refine NN.lit ?_|refine NN.cast ?_|refine NN.a1 ?_|refine NN.a2 ?_|refine NN.a3 ?_|refine NN.a4 ?_|refine NN.a5 ?_|refine NN.a6 ?_|refine NN.keep ?_))|((with_reducible refine gH ?_);((with_reducible refine NH.mk ?s ?_);case s=>(and_intros<;>first|with_reducible rfl|((with_reducible refine gOnes ?_);rfl)|((with_reducible refine gLen ?_);rfl)|omega|assumption|exact Nat.le_of_ble_eq_true rfl|(simp only [List.length_append, List.length_cons, List.length_nil]; omega)|rfl)))|((with_reducible refine gC ?_);(first|((with_reducible refine NCall.isF 16 ?_);refine NCall.pureE (ch) ?_)|((with_reducible refine NCall.isF 52 ?_);refine NCall.subE [1] (c1) rfl (by decide) rfl rfl ?_)|((with_reducible refine NCall.isF 34 ?_);refine NCall.subE [1] (c2) rfl (by decide) rfl rfl ?_)|((with_reducible refine NCall.isF 34 ?_);refine NCall.subE [1] (c3) rfl (by decide) rfl rfl ?_)))|(with_reducible refine NS.keep ?_)|(with_reducible refine NLd.of (by with_reducible assumption) ?_))<;>(conv=>whnf))|((with_reducible refine gNO ?_);(first|(refine z36 rfl (by kernel_rfl) ?_; intro K hK; (conv=>whnf))|(refine z37 rfl (by kernel_rfl) ?_; intro K hK; (conv=>whnf))|(refine z38 rfl (by kernel_rfl) ?_)|(refine z39 rfl rfl (by kernel_rfl) (by intro h; cases h) ?_)))|((with_reducible refine gNE ?_);(first|(refine z40 ?_ ?_; (intro K hK; (conv=>whnf)))|(refine z41 ?_ ?_; (intro K hK; (conv=>whnf)))|exact z42))|((with_reducible refine gX ?_);(first|(refine z35 (by kernel_rfl) _ rfl ?_)|(with_reducible first|refine z3 ?_|refine z4 ?_|refine z5 ?_|refine z6 ?_|refine z7 ?_|refine z8 ?_|refine z14 ?_|refine z15 ?_)|((with_reducible refine z29 ?_);intro A B hA hB;(conv=>whnf))))|(with_reducible first|refine z1 ?_|refine z2 ?_|refine z9 ?_|refine z10 ?_|refine z11 ?_|refine z12 ?_|refine z13 ?_|refine z16 ?_|refine z17 ?_|refine z18 ?_|refine z19 ?_|refine z20 ?_|refine z21 ?_|refine z22 ?_|refine z23 ?_)|((with_reducible refine gB ?_);(refine z30 (by decide) ?_))|((with_reducible refine gR ?_);((first|refine z31 rfl ?_|refine z32 rfl ?_);intro K hK;(conv=>whnf)))|((with_reducible refine gF ?_);((refine z33 rfl ?_);intro K hK;(conv=>whnf)))|((refine NFlat_iff.2 ⟨⟨?s1,?s2⟩,?_⟩;(case s1=>decide +kernel);(case s2=>decide +kernel))<;>(conv=>whnf))|((intro _;skip)<;>(conv=>whnf))))
  all_goals exact Pr.got_none rfl rfl (MemFits.pre 2 rfl)
theorem read16_5 (F : Heap) (a : Addr) (r : Oct.R) (h : r.ok) (sw : Int) :
    NCall Try.prog 36 [.ptr 1 a 0, .agg [.int .i64 5, .int .i64 sw, .int .i64 0, .int .i64 0, .int .i64 0, .int .i64 0, .int .i64 0, .int .i64 0, .int .i64 0, .raw (.slice none 0 0)]] [hpB F, RB a r] fun v m => Pr.Got F a (Pr.msV 5 sw r) (Pr.e8 5 r) v m := by
  have c1 := rnum_c a r 2 h (by decide)
  have c2 := rnum_c a (r.num 2).2 1 (Oct.R.num_keeps h) (by decide)
  have ch : NCall Try.prog 16 [.int .i64 5] [] fun r _ => r = .int .i64 24 := has_c 5
  have hX : Pr.msV 5 sw r = ⟨5, sw, (((r.num 2).1 : Nat) : Int), ((((r.num 2).2.num 1).1 : Nat) : Int) - 1, 0, 0, 0, 0, 0, []⟩ := rfl
  have hE : Pr.e8 5 r = ((r.num 2).2.num 1).2 := rfl
  have b1 : bitv .and .i64 24 1 = 0 := by decide +kernel
  have b2 : bitv .and .i64 24 2 = 0 := by decide +kernel
  have b4 : bitv .and .i64 24 4 = 0 := by decide +kernel
  have b8 : bitv .and .i64 24 8 = 8 := by decide +kernel
  have b16 : bitv .and .i64 24 16 = 16 := by decide +kernel
  have b32 : bitv .and .i64 24 32 = 0 := by decide +kernel
  have b64 : bitv .and .i64 24 64 = 0 := by decide +kernel
  have b128 : bitv .and .i64 24 128 = 0 := by decide +kernel
  rw [hX, hE]
  clear hX hE
  have n2 : ((r.num 2).2.num 1).1 < 72057594037927936 := Oct.R.num_lt _ _
  have n1 : (r.num 2).1 < 72057594037927936 := Oct.R.num_lt _ _
  generalize ((r.num 2).2.num 1).1 = v2 at *
  generalize ((r.num 2).2.num 1).2 = s2 at *
  generalize (r.num 2).1 = v1 at *
  generalize (r.num 2).2 = s1 at *
  refine ncall_of Try.func36 rfl (by decide) ?_
  (repeat' (first|(with_reducible first|(refine hK _ _ ?_;clear hK K)|(refine hA ?_;clear hA hB A B)|(refine hB ?_;clear hA hB A B)|(refine hK _ ?_;clear hK K))|((with_reducible refine gO ?_);(first|((with_reducible first|refine z25 ?_|refine z26 ?_);intro K hK;(conv=>whnf))|(with_reducible first|refine z0 ?_)))|((first|((with_reducible refine gV ?_);(first|((with_reducible refine NV.eq (b1) ?_))|((with_reducible refine NV.eq (b2) ?_))|((with_reducible refine NV.eq (b4) ?_))|((with_reducible refine NV.eq (b8) ?_))|((with_reducible refine NV.eq (b16) ?_))|((with_reducible refine NV.eq (b32) ?_))|((with_reducible refine NV.eq (b64) ?_))|((with_reducible refine NV.eq (b128) ?_))|((with_reducible first|refine NV.quo ?s ?_|refine NV.rem ?s ?_|refine NV.i64 ?s ?_|refine NV.u32 ?s ?_|refine NV.u8 ?s ?_|refine NV.u64 ?s ?_);case s=>omega)|(with_reducible first|refine NV.divk ?_|refine NV.modk ?_|refine NV.keep ?_)))|((with_reducible refine gI ?_);(first|with_reducible refine NIf.not_ ?_|((with_reducible refine NIf.decY ?s ?_);case s=>first|with_reducible rfl|assumption|omega)|((with_reducible refine NIf.decN ?s ?_);case s=>first|with_reducible rfl|assumption|omega)|((with_reducible refine NIf.yes ?s ?_);case s=>first|rfl|assumption)|((with_reducible refine NIf.no ?s ?_);case s=>first|rfl|assumption)|(with_reducible first|refine NIf.dec (fun _=>?_) (fun _=>?_)|refine NIf.both (fun _=>?_) (fun _=>?_))))|((with_reducible refine gN ?_);(with_reducible first|refine NN.lit ?_|refine NN.cast ?_|refine NN.a1 ?_|refine NN.a2 ?_|refine NN.a3 ?_|refine NN.a4 ?_|refine NN.a5 ?_|refine NN.a6 ?_|refine NN.keep ?_))|((with_reducible refine gH ?_);((with_reducible refine NH.mk ?s ?_);case s=>(and_intros<;>first|with_reducible rfl|((with_reducible refine gOnes ?_);rfl)|((with_reducible refine gLen ?_);rfl)|omega|assumption|exact Nat.le_of_ble_eq_true rfl|(simp only [List.length_append, List.length_cons, List.length_nil]; omega)|rfl)))|((with_reducible refine gC ?_);(first|((with_reducible refine NCall.isF 16 ?_);refine NCall.pureE (ch) ?_)|((with_reducible refine NCall.isF 34 ?_);refine NCall.subE [1] (c1) rfl (by decide) rfl rfl ?_)|((with_reducible refine NCall.isF 34 ?_);refine NCall.subE [1] (c2) rfl (by decide) rfl rfl ?_)))|(with_reducible refine NS.keep ?_)|(with_reducible refine NLd.of (by with_reducible assumption) ?_))<;>(conv=>whnf))|((with_reducible refine gNO ?_);(first|(refine z36 rfl (by kernel_rfl) ?_; intro K hK; (conv=>whnf))|(refine z37 rfl (by kernel_rfl) ?_; intro K hK; (conv=>whnf))|(refine z38 rfl (by kernel_rfl) ?_)|(refine z39 rfl rfl (by kernel_rfl) (by intro h; cases h) ?_)))|((with_reducible refine gNE ?_);(first|(refine z40 ?_ ?_; (intro K hK; (conv=>whnf)))|(refine z41 ?_ ?_; (intro K hK; (conv=>whnf)))|exact z42))|((with_reducible refine gX ?_);(first|(refine z35 (by kernel_rfl) _ rfl ?_)|(with_reducible first|refine z3 ?_|refine z4 ?_|refine z5 ?_|refine z6 ?_|refine z7 ?_|refine z8 ?_|refine z14 ?_|refine z15 ?_)|((with_reducible refine z29 ?_);intro A B hA hB;(conv=>whnf))))|(with_reducible first|refine z1 ?_|refine z2 ?_|refine z9 ?_|refine z10 ?_|refine z11 ?_|refine z12 ?_|refine z13 ?_|refine z16 ?_|refine z17 ?_|refine z18 ?_|refine z19 ?_|refine z20 ?_|refine z21 ?_|refine z22 ?_|refine z23 ?_)|((with_reducible refine gB ?_);(refine z30 (by decide) ?_))|((with_reducible refine gR ?_);((first|refine z31 rfl ?_|refine z32 rfl ?_);intro K hK;(conv=>whnf)))|((with_reducible refine gF ?_);((refine z33 rfl ?_);intro K hK;(conv=>whnf)))|((refine NFlat_iff.2 ⟨⟨?s1,?s2⟩,?_⟩;(case s1=>decide +kernel);(case s2=>decide +kernel))<;>(conv=>whnf))|((intro _;skip)<;>(conv=>whnf))))
  all_goals exact Pr.got_none rfl rfl (MemFits.pre 2 rfl)
theorem read16_6 (F : Heap) (a : Addr) (r : Oct.R) (h : r.ok) (sw : Int) :
    NCall Try.prog 36 [.ptr 1 a 0, .agg [.int .i64 6, .int .i64 sw, .int .i64 0, .int .i64 0, .int .i64 0, .int .i64 0, .int .i64 0, .int .i64 0, .int .i64 0, .raw (.slice none 0 0)]] [hpB F, RB a r] fun v m => Pr.Got F a (Pr.msV 6 sw r) (Pr.e8 6 r) v m := by
  have c1 := rnum_c a r 2 h (by decide)
  have c2 := rnum_c a (r.num 2).2 1 (Oct.R.num_keeps h) (by decide)
  have ch : NCall Try.prog 16 [.int .i64 6] [] fun r _ => r = .int .i64 72 := has_c 6
  have hX : Pr.msV 6 sw r = ⟨6, sw, (((r.num 2).1 : Nat) : Int), 0, 0, 0, 0, 0, ((((r.num 2).2.num 1).1 : Nat) : Int), []⟩ := rfl
  have hE : Pr.e8 6 r = ((r.num 2).2.num 1).2 := rfl
  have b1 : bitv .and .i64 72 1 = 0 := by decide +kernel
  have b2 : bitv .and .i64 72 2 = 0 := by decide +kernel
  have b4 : bitv .and .i64 72 4 = 0 := by decide +kernel
  have b8 : bitv .and .i64 72 8 = 8 := by decide +kernel
  have b16 : bitv .and .i64 72 16 = 0 := by decide +kernel
  have b32 : bitv .and .i64 72 32 = 0 := by decide +kernel
  have b64 : bitv .and .i64 72 64 = 64 := by decide +kernel
  have b128 : bitv .and .i64 72 128 = 0 := by decide +kernel
  rw [hX, hE]
  clear hX hE
  have n2 : ((r.num 2).2.num 1).1 < 72057594037927936 := Oct.R.num_lt _ _
  have n1 : (r.num 2).1 < 72057594037927936 := Oct.R.num_lt _ _
  generalize ((r.num 2).2.num 1).1 = v2 at *
  generalize ((r.num 2).2.num 1).2 = s2 at *
  generalize (r.num 2).1 = v1 at *
  generalize (r.num 2).2 = s1 at *
  refine ncall_of Try.func36 rfl (by decide) ?_
  (repeat' (first|(with_reducible first|(refine hK _ _ ?_;clear hK K)|(refine hA ?_;clear hA hB A B)|(refine hB ?_;clear hA hB A B)|(refine hK _ ?_;clear hK K))|((with_reducible refine gO ?_);(first|((with_reducible first|refine z25 ?_|refine z26 ?_);intro K hK;(conv=>whnf))|(with_reducible first|refine z0 ?_)))|((first|((with_reducible refine gV ?_);(first|((with_reducible refine NV.eq (b1) ?_))|((with_reducible refine NV.eq (b2) ?_))|((with_reducible refine NV.eq (b4) ?_))|((with_reducible refine NV.eq (b8) ?_))|((with_reducible refine NV.eq (b16) ?_))|((with_reducible refine NV.eq (b32) ?_))|((with_reducible refine NV.eq (b64) ?_))|((with_reducible refine NV.eq (b128) ?_))|((with_reducible first|refine NV.quo ?s ?_|refine NV.rem ?s ?_|refine NV.i64 ?s ?_|refine NV.u32 ?s ?_|refine NV.u8 ?s ?_|refine NV.u64 ?s ?_);case s=>omega)|(with_reducible first|refine NV.divk ?_|refine NV.modk ?_|refine NV.keep ?_)))|((with_reducible refine gI ?_);(first|with_reducible refine NIf.not_ ?_|((with_reducible refine NIf.decY ?s ?_);case s=>first|with_reducible rfl|assumption|omega)|((with_reducible refine NIf.decN ?s ?_);case s=>first|with_reducible rfl|assumption|omega)|((with_reducible refine NIf.yes ?s ?_);case s=>first|rfl|assumption)|((with_reducible refine NIf.no ?s ?_);case s=>first|rfl|assumption)|(with_reducible first|refine NIf.dec (fun _=>?_) (fun _=>?_)|refine NIf.both (fun _=>?_) (fun _=>?_))))|((with_reducible refine gN ?_);(with_reducible first|refine NN.lit ?_|refine NN.cast ?_|refine NN.a1 ?_|refine NN.a2 ?_|refine NN.a3 ?_|refine NN.a4 ?_|refine NN.a5 ?_|refine NN.a6 ?_|refine NN.keep ?_))|((with_reducible refine gH ?_);((with_reducible refine NH.mk ?s ?_);case s=>(and_intros<;>first|with_reducible rfl|((with_reducible refine gOnes ?_);rfl)|((with_reducible refine gLen ?_);rfl)|omega|assumption|exact Nat.le_of_ble_eq_true rfl|(simp only [List.length_append, List.length_cons, List.length_nil]; omega)|rfl)))|((with_reducible refine gC ?_);(first|((with_reducible refine NCall.isF 16 ?_);refine NCall.pureE (ch) ?_)|((with_reducible refine NCall.isF 34 ?_);refine NCall.subE [1] (c1) rfl (by decide) rfl rfl ?_)|((with_reducible refine NCall.isF 34 ?_);refine NCall.subE [1] (c2) rfl (by decide) rfl rfl ?_)))|(with_reducible refine NS.keep ?_)|(with_reducible refine NLd.of (by with_reducible assumption) ?_))<;>(conv=>whnf))|((with_reducible refine gNO ?_);(first|(refine z36 rfl (by kernel_rfl) ?_; intro K hK; (conv=>whnf))|(refine z37 rfl (by kernel_rfl) ?_; intro K hK; (conv=>whnf))|(refine z38 rfl (by kernel_rfl) ?_)|(refine z39 rfl rfl (by kernel_rfl) (by intro h; cases h) ?_)))|((with_reducible refine gNE ?_);(first|(refine z40 ?_ ?_; (intro K hK; (conv=>whnf)))|(refine z41 ?_ ?_; (intro K hK; (conv=>whnf)))|exact z42))|((with_reducible refine gX ?_);(first|(refine z35 (by kernel_rfl) _ rfl ?_)|(with_reducible first|refine z3 ?_|refine z4 ?_|refine z5 ?_|refine z6 ?_|refine z7 ?_|refine z8 ?_|refine z14 ?_|refine z15 ?_)|((with_reducible refine z29 ?_);intro A B hA hB;(conv=>whnf))))|(with_reducible first|refine z1 ?_|refine z2 ?_|refine z9 ?_|refine z10 ?_|refine z11 ?_|refine z12 ?_|refine z13 ?_|refine z16 ?_|refine z17 ?_|refine z18 ?_|refine z19 ?_|refine z20 ?_|refine z21 ?_|refine z22 ?_|refine z23 ?_)|((with_reducible refine gB ?_);(refine z30 (by decide) ?_))|((with_reducible refine gR ?_);((first|refine z31 rfl ?_|refine z32 rfl ?_);intro K hK;(conv=>whnf)))|((with_reducible refine gF ?_);((refine z33 rfl ?_);intro K hK;(conv=>whnf)))|((refine NFlat_iff.2 ⟨⟨?s1,?s2⟩,?_⟩;(case s1=>decide +kernel);(case s2=>decide +kernel))<;>(conv=>whnf))|((intro _;skip)<;>(conv=>whnf))))
  all_goals exact Pr.got_none rfl rfl (MemFits.pre 2 rfl)
theorem read16_7 (F : Heap) (a : Addr) (r : Oct.R) (h : r.ok) (sw : Int) :
    NCall Try.prog 36 [.ptr 1 a 0, .agg [.int .i64 7, .int .i64 sw, .int .i64 0, .int .i64 0, .int .i64 0, .int .i64 0, .int .i64 0, .int .i64 0, .int .i64 0, .raw (.slice none 0 0)]] [hpB F, RB a r] fun v m => Pr.Got F a (Pr.msV 7 sw r) (Pr.e8 7 r) v m := by
  have c1 := rnum_c a r 2 h (by decide)
  have c2 := rnum_c a (r.num 2).2 2 (Oct.R.num_keeps h) (by decide)
  have c3 := rnum_c a ((r.num 2).2.num 2).2 1 (Oct.R.num_keeps (Oct.R.num_keeps h)) (by decide)
  have c4 := rnum_c a (((r.num 2).2.num 2).2.num 1).2 1 (Oct.R.num_keeps (Oct.R.num_keeps (Oct.R.num_keeps h))) (by decide)
  have ch : NCall Try.prog 16 [.int .i64 7] [] fun r _ => r = .int .i64 60 := has_c 7
  have hX : Pr.msV 7 sw r = ⟨7, sw, ((((r.num 2).2.num 2).1 : Nat) : Int), (((((r.num 2).2.num 2).2.num 1).1 : Nat) : Int) - 1, 0, 0, (((r.num 2).1 : Nat) : Int), ((((((r.num 2).2.num 2).2.num 1).2.num 1).1 : Nat) : Int), 0, []⟩ := rfl
  have hE : Pr.e8 7 r = ((((r.num 2).2.num 2).2.num 1).2.num 1).2 := rfl
  have b1 : bitv .and .i64 60 1 = 0 := by decide +kernel
  have b2 : bitv .and .i64 60 2 = 0 := by decide +kernel
  have b4 : bitv .and .i64 60 4 = 4 := by decide +kernel
  have b8 : bitv .and .i64 60 8 = 8 := by decide +kernel
  have b16 : bitv .and .i64 60 16 = 16 := by decide +kernel
  have b32 : bitv .and .i64 60 32 = 32 := by decide +kernel
  have b64 : bitv .and .i64 60 64 = 0 := by decide +kernel
  have b128 : bitv .and .i64 60 128 = 0 := by decide +kernel
  rw [hX, hE]
  clear hX hE
  have n4 : ((((r.num 2).2.num 2).2.num 1).2.num 1).1 < 72057594037927936 := Oct.R.num_lt _ _
  have n3 : (((r.num 2).2.num 2).2.num 1).1 < 72057594037927936 := Oct.R.num_lt _ _
  have n2 : ((r.num 2).2.num 2).1 < 72057594037927936 := Oct.R.num_lt _ _
  have n1 : (r.num 2).1 < 72057594037927936 := Oct.R.num_lt _ _
  generalize ((((r.num 2).2.num 2).2.num 1).2.num 1).1 = v4 at *
  generalize ((((r.num 2).2.num 2).2.num 1).2.num 1).2 = s4 at *
  generalize (((r.num 2).2.num 2).2.num 1).1 = v3 at *
  generalize (((r.num 2).2.num 2).2.num 1).2 = s3 at *
  generalize ((r.num 2).2.num 2).1 = v2 at *
  generalize ((r.num 2).2.num 2).2 = s2 at *
  generalize (r.num 2).1 = v1 at *
  generalize (r.num 2).2 = s1 at *
  refine ncall_of Try.func36 rfl (by decide) ?_
  (repeat' (first|(with_reducible first|(refine hK _ _ ?_;clear hK K)|(refine hA ?_;clear hA hB A B)|(refine hB ?_;clear hA hB A B)|(refine hK _ ?_;clear hK K))|((with_reducible refine gO ?_);(first|((with_reducible first|refine z25 ?_|refine z26 ?_);intro K hK;(conv=>whnf))|(with_reducible first|refine z0 ?_)))|((first|((with_reducible refine gV ?_);(first|((with_reducible refine NV.eq (b1) ?_))|((with_reducible refine NV.eq (b2) ?_))|((with_reducible refine NV.eq (b4) ?_))|((with_reducible refine NV.eq (b8) ?_))|((with_reducible refine NV.eq (b16) ?_))|((with_reducible refine NV.eq (b32) ?_))|((with_reducible refine NV.eq (b64) ?_))|((with_reducible refine NV.eq (b128) ?_))|((with_reducible first|refine NV.quo ?s ?_|refine NV.rem ?s ?_|refine NV.i64 ?s ?_|refine NV.u32 ?s ?_|refine NV.u8 ?s ?_|refine NV.u64 ?s ?_);case s=>omega)|(with_reducible first|refine NV.divk ?_|refine NV.modk ?_|refine NV.keep ?_)))|((with_reducible refine gI ?_);(first|with_reducible refine NIf.not_ ?_|((with_reducible refine NIf.decY ?s ?_);case s=>first|with_reducible rfl|assumption|omega)|((with_reducible refine NIf.decN ?s ?_);case s=>first|with_reducible rfl|assumption|omega)|((with_reducible refine NIf.yes ?s ?_);case s=>first|rfl|assumption)|((with_reducible refine NIf.no ?s ?_);case s=>first|rfl|assumption)|(with_reducible first|refine NIf.dec (fun _=>?_) (fun _=>?_)|refine NIf.both (fun _=>?_) (fun _=>?_))))|((with_reducible refine gN ?_);(with_reducible first|refine NN.lit ?_|refine NN.cast ?_|refine NN.a1 ?_|refine NN.a2 ?_|refine NN.a3 ?_|refine NN.a4 ?_|refine NN.a5 ?_|refine NN.a6 ?_|refine NN.keep ?_))|((with_reducible refine gH ?_);((with_reducible refine NH.mk ?s ?_);case s=>(and_intros<;>first|with_reducible rfl|((with_reducible refine gOnes ?_);rfl)|((with_reducible refine gLen ?_);rfl)|omega|assumption|exact Nat.le_of_ble_eq_true rfl|(simp only [List.length_append, List.length_cons, List.length_nil]; omega)|rfl)))|((with_reducible refine gC ?_);(first|((with_reducible refine NCall.isF 16 ?_);refine NCall.pureE (ch) ?_)|((with_reducible refine NCall.isF 34 ?_);refine NCall.subE [1] (c1) rfl (by decide) rfl rfl ?_)|((with_reducible refine NCall.isF 34 ?_);refine NCall.subE [1] (c2) rfl (by decide) rfl rfl ?_)|((with_reducible refine NCall.isF 34 ?_);refine NCall.subE [1] (c3) rfl (by decide) rfl rfl ?_)|((with_reducible refine NCall.isF 34 ?_);refine NCall.subE [1] (c4) rfl (by decide) rfl rfl ?_)))|(with_reducible refine NS.keep ?_)|(with_reducible refine NLd.of (by with_reducible assumption) ?_))<;>(conv=>whnf))|((with_reducible refine gNO ?_);(first|(refine z36 rfl (by kernel_rfl) ?_; intro K hK; (conv=>whnf))|(refine z37 rfl (by kernel_rfl) ?_; intro K hK; (conv=>whnf))|(refine z38 rfl (by kernel_rfl) ?_)|(refine z39 rfl rfl (by kernel_rfl) (by intro h; cases h) ?_)))|((with_reducible refine gNE ?_);(first|(refine z40 ?_ ?_; (intro K hK; (conv=>whnf)))|(refine z41 ?_ ?_; (intro K hK; (conv=>whnf)))|exact z42))|((with_reducible refine gX ?_);(first|(refine z35 (by kernel_rfl) _ rfl ?_)|(with_reducible first|refine z3 ?_|refine z4 ?_|refine z5 ?_|refine z6 ?_|refine z7 ?_|refine z8 ?_|refine z14 ?_|refine z15 ?_)|((with_reducible refine z29 ?_);intro A B hA hB;(conv=>whnf))))|(with_reducible first|refine z1 ?_|refine z2 ?_|refine z9 ?_|refine z10 ?_|refine z11 ?_|refine z12 ?_|refine z13 ?_|refine z16 ?_|refine z17 ?_|refine z18 ?_|refine z19 ?_|refine z20 ?_|refine z21 ?_|refine z22 ?_|refine z23 ?_)|((with_reducible refine gB ?_);(refine z30 (by decide) ?_))|((with_reducible refine gR ?_);((first|refine z31 rfl ?_|refine z32 rfl ?_);intro K hK;(conv=>whnf)))|((with_reducible refine gF ?_);((refine z33 rfl ?_);intro K hK;(conv=>whnf)))|((refine NFlat_iff.2 ⟨⟨?s1,?s2⟩,?_⟩;(case s1=>decide +kernel);(case s2=>decide +kernel))<;>(conv=>whnf))|((intro _;skip)<;>(conv=>whnf))))
  all_goals exact Pr.got_none rfl rfl (MemFits.pre 2 rfl)
theorem read16_8 (F : Heap) (a : Addr) (r : Oct.R) (h : r.ok) (sw : Int) :
    NCall Try.prog 36 [.ptr 1 a 0, .agg [.int .i64 8, .int .i64 sw, .int .i64 0, .int .i64 0, .int .i64 0, .int .i64 0, .int .i64 0, .int .i64 0, .int .i64 0, .raw (.slice none 0 0)]] [hpB F, RB a r] fun v m => Pr.Got F a (Pr.msV 8 sw r) (Pr.e8 8 r) v m := by
  have c1 := rnum_c a r 2 h (by decide)
  have c2 := rnum_c a (r.num 2).2 2 (Oct.R.num_keeps h) (by decide)
  have c3 := rnum_c a ((r.num 2).2.num 2).2 1 (Oct.R.num_keeps (Oct.R.num_keeps h)) (by decide)
  have c4 := rnum_c a (((r.num 2).2.num 2).2.num 1).2 1 (Oct.R.num_keeps (Oct.R.num_keeps (Oct.R.num_keeps h))) (by decide)
  have c5 := rnum_c a ((((r.num 2).2.num 2).2.num 1).2.num 1).2 1 (Oct.R.num_keeps (Oct.R.num_keeps (Oct.R.num_keeps (Oct.R.num_keeps h)))) (by decide)
  have ch : NCall Try.prog 16 [.int .i64 8] [] fun r _ => r = .int .i64 124 := has_c 8
  have hX : Pr.msV 8 sw r = ⟨8, sw, ((((r.num 2).2.num 2).1 : Nat) : Int), (((((r.num 2).2.num 2).2.num 1).1 : Nat) : Int) - 1, 0, 0, (((r.num 2).1 : Nat) : Int), ((((((r.num 2).2.num 2).2.num 1).2.num 1).1 : Nat) : Int), (((((((r.num 2).2.num 2).2.num 1).2.num 1).2.num 1).1 : Nat) : Int), []⟩ := rfl
  have hE : Pr.e8 8 r = (((((r.num 2).2.num 2).2.num 1).2.num 1).2.num 1).2 := rfl
  have b1 : bitv .and .i64 124 1 = 0 := by decide +kernel
  have b2 : bitv .and .i64 124 2 = 0 := by decide +kernel
  have b4 : bitv .and .i64 124 4 = 4 := by decide +kernel
  have b8 : bitv .and .i64 124 8 = 8 := by decide +kernel
  have b16 : bitv .and .i64 124 16 = 16 := by decide +kernel
  have b32 : bitv .and .i64 124 32 = 32 := by decide +kernel
  have b64 : bitv .and .i64 124 64 = 64 := by decide +kernel
  have b128 : bitv .and .i64 124 128 = 0 := by decide +kernel
  rw [hX, hE]
  clear hX hE
  have n5 : (((((r.num 2).2.num 2).2.num 1).2.num 1).2.num 1).1 < 72057594037927936 := Oct.R.num_lt _ _
  have n4 : ((((r.num 2).2.num 2).2.num 1).2.num 1).1 < 72057594037927936 := Oct.R.num_lt _ _
  have n3 : (((r.num 2).2.num 2).2.num 1).1 < 72057594037927936 := Oct.R.num_lt _ _
  have n2 : ((r.num 2).2.num 2).1 < 72057594037927936 := Oct.R.num_lt _ _
  have n1 : (r.num 2).1 < 72057594037927936 := Oct.R.num_lt _ _
  generalize (((((r.num 2).2.num 2).2.num 1).2.num 1).2.num 1).1 = v5 at *
  generalize (((((r.num 2).2.num 2).2.num 1).2.num 1).2.num 1).2 = s5 at *
  generalize ((((r.num 2).2.num 2).2.num 1).2.num 1).1 = v4 at *
  generalize ((((r.num 2).2.num 2).2.num 1).2.num 1).2 = s4 at *
  generalize (((r.num 2).2.num 2).2.num 1).1 = v3 at *
  generalize (((r.num 2).2.num 2).2.num 1).2 = s3 at *
  generalize ((r.num 2).2.num 2).1 = v2 at *
  generalize ((r.num 2).2.num 2).2 = s2 at *
  generalize (r.num 2).1 = v1 at *
  generalize (r.num 2).2 = s1 at *
  refine ncall_of Try.func36 rfl (by decide) ?_
  (repeat' (first|(with_reducible first|(refine hK _ _ ?_;clear hK K)|(refine hA ?_;clear hA hB A B)|(refine hB ?_;clear hA hB A B)|(refine hK _ ?_;clear hK K))|((with_reducible refine gO ?_);(first|((with_reducible first|refine z25 ?_|refine z26 ?_);intro K hK;(conv=>whnf))|(with_reducible first|refine z0 ?_)))|((first|((with_reducible refine gV ?_);(first|((with_reducible refine NV.eq (b1) ?_))|((with_reducible refine NV.eq (b2) ?_))|((with_reducible refine NV.eq (b4) ?_))|((with_reducible refine NV.eq (b8) ?_))|((with_reducible refine NV.eq (b16) ?_))|((with_reducible refine NV.eq (b32) ?_))|((with_reducible refine NV.eq (b64) ?_))|((with_reducible refine NV.eq (b128) ?_))|((with_reducible first|refine NV.quo ?s ?_|refine NV.rem ?s ?_|refine NV.i64 ?s ?_|refine NV.u32 ?s ?_|refine NV.u8 ?s ?_|refine NV.u64 ?s ?_);case s=>omega)|(with_reducible first|refine NV.divk ?_|refine NV.modk ?_|refine NV.keep ?_)))|((with_reducible refine gI ?_);(first|with_reducible refine NIf.not_ ?_|((with_reducible refine NIf.decY ?s ?_);case s=>first|with_reducible rfl|assumption|omega)|((with_reducible refine NIf.decN ?s ?_);case s=>first|with_reducible rfl|assumption|omega)|((with_reducible refine NIf.yes ?s ?_);case s=>first|rfl|assumption)|((with_reducible refine NIf.no ?s ?_);case s=>first|rfl|assumption)|(with_reducible first|refine NIf.dec (fun _=>?_) (fun _=>?_)|refine NIf.both (fun _=>?_) (fun _=>?_))))|((with_reducible refine gN ?_);(with_reducible first|refine NN.lit ?_|refine NN.cast ?_|refine NN.a1 ?_|refine NN.a2 ?_|refine NN.a3 ?_|refine NN.a4 ?_|refine NN.a5 ?_|refine NN.a6 ?_|refine NN.keep ?_))|((with_reducible refine gH ?_);((with_reducible refine NH.mk ?s ?_);case s=>(and_intros<;>first|with_reducible rfl|((with_reducible refine gOnes ?_);rfl)|((with_reducible refine gLen ?_);rfl)|omega|assumption|exact Nat.le_of_ble_eq_true rfl|(simp only [List.length_append, List.length_cons, List.length_nil]; omega)|rfl)))|((with_reducible refine gC ?_);(first|((with_reducible refine NCall.isF 16 ?_);refine NCall.pureE (ch) ?_)|((with_reducible refine NCall.isF 34 ?_);refine NCall.subE [1] (c1) rfl (by decide) rfl rfl ?_)|((with_reducible refine NCall.isF 34 ?_);refine NCall.subE [1] (c2) rfl (by decide) rfl rfl ?_)|((with_reducible refine NCall.isF 34 ?_);refine NCall.subE [1] (c3) rfl (by decide) rfl rfl ?_)|((with_reducible refine NCall.isF 34 ?_);refine NCall.subE [1] (c4) rfl (by decide) rfl rfl ?_)|((with_reducible refine NCall.isF 34 ?_);refine NCall.subE [1] (c5) rfl (by decide) rfl rfl ?_)))|(with_reducible refine NS.keep ?_)|(with_reducible refine NLd.of (by with_reducible assumption) ?_))<;>(conv=>whnf))|((with_reducible refine gNO ?_);(first|(refine z36 rfl (by kernel_rfl) ?_; intro K hK; (conv=>whnf))|(refine z37 rfl (by kernel_rfl) ?_; intro K hK; (conv=>whnf))|(refine z38 rfl (by kernel_rfl) ?_)|(refine z39 rfl rfl (by kernel_rfl) (by intro h; cases h) ?_)))|((with_reducible refine gNE ?_);(first|(refine z40 ?_ ?_; (intro K hK; (conv=>whnf)))|(refine z41 ?_ ?_; (intro K hK; (conv=>whnf)))|exact z42))|((with_reducible refine gX ?_);(first|(refine z35 (by kernel_rfl) _ rfl ?_)|(with_reducible first|refine z3 ?_|refine z4 ?_|refine z5 ?_|refine z6 ?_|refine z7 ?_|refine z8 ?_|refine z14 ?_|refine z15 ?_)|((with_reducible refine z29 ?_);intro A B hA hB;(conv=>whnf))))|(with_reducible first|refine z1 ?_|refine z2 ?_|refine z9 ?_|refine z10 ?_|refine z11 ?_|refine z12 ?_|refine z13 ?_|refine z16 ?_|refine z17 ?_|refine z18 ?_|refine z19 ?_|refine z20 ?_|refine z21 ?_|refine z22 ?_|refine z23 ?_)|((with_reducible refine gB ?_);(refine z30 (by decide) ?_))|((with_reducible refine gR ?_);((first|refine z31 rfl ?_|refine z32 rfl ?_);intro K hK;(conv=>whnf)))|((with_reducible refine gF ?_);((refine z33 rfl ?_);intro K hK;(conv=>whnf)))|((refine NFlat_iff.2 ⟨⟨?s1,?s2⟩,?_⟩;(case s1=>decide +kernel);(case s2=>decide +kernel))<;>(conv=>whnf))|((intro _;skip)<;>(conv=>whnf))))
  all_goals exact Pr.got_none rfl rfl (MemFits.pre 2 rfl)
theorem read16_z (F : Heap) (a : Addr) (r : Oct.R) (h : r.ok) (k sw : Int) (hk : ¬ (1 ≤ k ∧ k ≤ 8)) :
    NCall Try.prog 36 [.ptr 1 a 0, .agg [.int .i64 k, .int .i64 sw, .int .i64 0, .int .i64 0, .int .i64 0, .int .i64 0, .int .i64 0, .int .i64 0, .int .i64 0, .raw (.slice none 0 0)]] [hpB F, RB a r] fun v m => Pr.Got F a (Pr.msV k sw r) (Pr.e8 k r) v m := by
  have hz : Pr.has k = 0 := by
    unfold Pr.has
    rw [if_neg (by omega), if_neg (by omega), if_neg (by omega), if_neg (by omega), if_neg (by omega), if_neg (by omega), if_neg (by omega), if_neg (by omega)]
  have ch := has_c k
  rw [hz] at ch
  have hE : Pr.e8 k r = r := by
    simp only [Pr.e8, Pr.e7, Pr.e6, Pr.e5, Pr.e4, Pr.e3, Pr.e2, Pr.e1]
    rw [if_neg (by omega), if_neg (by omega), if_neg (by omega), if_neg (by omega), if_neg (by omega), if_neg (by omega), if_neg (by omega), if_neg (by omega)]
  have hX : Pr.msV k sw r = ⟨k, sw, 0, 0, 0, 0, 0, 0, 0, []⟩ := by
    unfold Pr.msV Pr.modsV
    rw [if_neg (by omega), if_neg (by omega), if_neg (by omega), if_neg (by omega), if_neg (by omega), if_neg (by omega), if_neg (by omega), if_neg (by omega)]
  have b1 : bitv .and .i64 0 1 = 0 := by decide +kernel
  have b2 : bitv .and .i64 0 2 = 0 := by decide +kernel
  have b4 : bitv .and .i64 0 4 = 0 := by decide +kernel
  have b8 : bitv .and .i64 0 8 = 0 := by decide +kernel
  have b16 : bitv .and .i64 0 16 = 0 := by decide +kernel
  have b32 : bitv .and .i64 0 32 = 0 := by decide +kernel
  have b64 : bitv .and .i64 0 64 = 0 := by decide +kernel
  have b128 : bitv .and .i64 0 128 = 0 := by decide +kernel
  rw [hX, hE]
  clear hX hE
  refine ncall_of Try.func36 rfl (by decide) ?_
  (repeat' (first|(with_reducible first|(refine hK _ _ ?_;clear hK K)|(refine hA ?_;clear hA hB A B)|(refine hB ?_;clear hA hB A B)|(refine hK _ ?_;clear hK K))|((with_reducible refine gO ?_);(first|((with_reducible first|refine z25 ?_|refine z26 ?_);intro K hK;(conv=>whnf))|(with_reducible first|refine z0 ?_)))|((first|((with_reducible refine gV ?_);(first|((with_reducible refine NV.eq (b1) ?_))|((with_reducible refine NV.eq (b2) ?_))|((with_reducible refine NV.eq (b4) ?_))|((with_reducible refine NV.eq (b8) ?_))|((with_reducible refine NV.eq (b16) ?_))|((with_reducible refine NV.eq (b32) ?_))|((with_reducible refine NV.eq (b64) ?_))|((with_reducible refine NV.eq (b128) ?_))|((with_reducible first|refine NV.quo ?s ?_|refine NV.rem ?s ?_|refine NV.i64 ?s ?_|refine NV.u32 ?s ?_|refine NV.u8 ?s ?_|refine NV.u64 ?s ?_);case s=>omega)|(with_reducible first|refine NV.divk ?_|refine NV.modk ?_|refine NV.keep ?_)))|((with_reducible refine gI ?_);(first|with_reducible refine NIf.not_ ?_|((with_reducible refine NIf.decY ?s ?_);case s=>first|with_reducible rfl|assumption|omega)|((with_reducible refine NIf.decN ?s ?_);case s=>first|with_reducible rfl|assumption|omega)|((with_reducible refine NIf.yes ?s ?_);case s=>first|rfl|assumption)|((with_reducible refine NIf.no ?s ?_);case s=>first|rfl|assumption)|(with_reducible first|refine NIf.dec (fun _=>?_) (fun _=>?_)|refine NIf.both (fun _=>?_) (fun _=>?_))))|((with_reducible refine gN ?_);(with_reducible first|refine NN.lit ?_|refine NN.cast ?_|refine NN.a1 ?_|refine NN.a2 ?_|refine NN.a3 ?_|refine NN.a4 ?_|refine NN.a5 ?_|refine NN.a6 ?_|refine NN.keep ?_))|((with_reducible refine gH ?_);((with_reducible refine NH.mk ?s ?_);case s=>(and_intros<;>first|with_reducible rfl|((with_reducible refine gOnes ?_);rfl)|((with_reducible refine gLen ?_);rfl)|omega|assumption|exact Nat.le_of_ble_eq_true rfl|(simp only [List.length_append, List.length_cons, List.length_nil]; omega)|rfl)))|((with_reducible refine gC ?_);((with_reducible refine NCall.isF 16 ?_);refine NCall.pureE (ch) ?_))|(with_reducible refine NS.keep ?_)|(with_reducible refine NLd.of (by with_reducible assumption) ?_))<;>(conv=>whnf))|((with_reducible refine gNO ?_);(first|(refine z36 rfl (by kernel_rfl) ?_; intro K hK; (conv=>whnf))|(refine z37 rfl (by kernel_rfl) ?_; intro K hK; (conv=>whnf))|(refine z38 rfl (by kernel_rfl) ?_)|(refine z39 rfl rfl (by kernel_rfl) (by intro h; cases h) ?_)))|((with_reducible refine gNE ?_);(first|(refine z40 ?_ ?_; (intro K hK; (conv=>whnf)))|(refine z41 ?_ ?_; (intro K hK; (conv=>whnf)))|exact z42))|((with_reducible refine gX ?_);(first|(refine z35 (by kernel_rfl) _ rfl ?_)|(with_reducible first|refine z3 ?_|refine z4 ?_|refine z5 ?_|refine z6 ?_|refine z7 ?_|refine z8 ?_|refine z14 ?_|refine z15 ?_)|((with_reducible refine z29 ?_);intro A B hA hB;(conv=>whnf))))|(with_reducible first|refine z1 ?_|refine z2 ?_|refine z9 ?_|refine z10 ?_|refine z11 ?_|refine z12 ?_|refine z13 ?_|refine z16 ?_|refine z17 ?_|refine z18 ?_|refine z19 ?_|refine z20 ?_|refine z21 ?_|refine z22 ?_|refine z23 ?_)|((with_reducible refine gB ?_);(refine z30 (by decide) ?_))|((with_reducible refine gR ?_);((first|refine z31 rfl ?_|refine z32 rfl ?_);intro K hK;(conv=>whnf)))|((with_reducible refine gF ?_);((refine z33 rfl ?_);intro K hK;(conv=>whnf)))|((refine NFlat_iff.2 ⟨⟨?s1,?s2⟩,?_⟩;(case s1=>decide +kernel);(case s2=>decide +kernel))<;>(conv=>whnf))|((intro _;skip)<;>(conv=>whnf))))
  all_goals exact Pr.got_none rfl rfl (MemFits.pre 2 rfl)
theorem read16_3 (F : Heap) (a : Addr) (r : Oct.R) (h : r.ok) (sw : Int) :
    NCall Try.prog 36 [.ptr 1 a 0, .agg [.int .i64 3, .int .i64 sw, .int .i64 0, .int .i64 0, .int .i64 0, .int .i64 0, .int .i64 0, .int .i64 0, .int .i64 0, .raw (.slice none 0 0)]] [hpB F, RB a r] fun v m => Pr.Got F a (Pr.msV 3 sw r) (Pr.e8 3 r) v m := by
  have c1 := rnum_c a r 2 h (by decide)
  have c2 := rnum_c a (r.num 2).2 1 (Oct.R.num_keeps h) (by decide)
  have h2 := Oct.R.num_keeps (w := 1) (Oct.R.num_keeps (w := 2) h)
  have cc := rcount_c a ((r.num 2).2.num 1).2 16 h2
  obtain ⟨hc1, hc2⟩ := Ac.cnt_eq ((r.num 2).2.num 1).2
  rw [hc1] at cc
  have hq := Ac.count_ok h2
  have ch : NCall Try.prog 16 [.int .i64 3] [] fun r _ => r = .int .i64 152 := has_c 3
  have hX : Pr.msV 3 sw r = ⟨3, sw, (((r.num 2).1 : Nat) : Int), ((((r.num 2).2.num 1).1 : Nat) : Int) - 1, 0, 0, 0, 0, 0, Pr.mdsL (((r.num 2).2.num 1).2.count 16).2 (Ac.cnt ((r.num 2).2.num 1).2)⟩ := rfl
  have hE : Pr.e8 3 r = Pr.mdsE (((r.num 2).2.num 1).2.count 16).2 (Ac.cnt ((r.num 2).2.num 1).2) := rfl
  have b1 : bitv .and .i64 152 1 = 0 := by decide +kernel
  have b2 : bitv .and .i64 152 2 = 0 := by decide +kernel
  have b4 : bitv .and .i64 152 4 = 0 := by decide +kernel
  have b8 : bitv .and .i64 152 8 = 8 := by decide +kernel
  have b16 : bitv .and .i64 152 16 = 16 := by decide +kernel
  have b32 : bitv .and .i64 152 32 = 0 := by decide +kernel
  have b64 : bitv .and .i64 152 64 = 0 := by decide +kernel
  have b128 : bitv .and .i64 152 128 = 128 := by decide +kernel
  rw [hX, hE]
  clear hX hE hc1
  have n2 : ((r.num 2).2.num 1).1 < 72057594037927936 := Oct.R.num_lt _ _
  have n1 : (r.num 2).1 < 72057594037927936 := Oct.R.num_lt _ _
  generalize Ac.cnt ((r.num 2).2.num 1).2 = n at *
  generalize (((r.num 2).2.num 1).2.count 16).2 = q at *
  generalize ((r.num 2).2.num 1).1 = v2 at *
  generalize ((r.num 2).2.num 1).2 = s2 at *
  generalize (r.num 2).1 = v1 at *
  generalize (r.num 2).2 = s1 at *
  refine ncall_of Try.func36 rfl (by decide) ?_
  (repeat' (first|(with_reducible first|(refine hK _ _ ?_;clear hK K)|(refine hA ?_;clear hA hB A B)|(refine hB ?_;clear hA hB A B)|(refine hK _ ?_;clear hK K))|((with_reducible refine gO ?_);(first|((with_reducible first|refine z25 ?_|refine z26 ?_);intro K hK;(conv=>whnf))|(with_reducible first|refine z0 ?_)))|((first|((with_reducible refine gV ?_);(first|((with_reducible refine NV.eq (b1) ?_))|((with_reducible refine NV.eq (b2) ?_))|((with_reducible refine NV.eq (b4) ?_))|((with_reducible refine NV.eq (b8) ?_))|((with_reducible refine NV.eq (b16) ?_))|((with_reducible refine NV.eq (b32) ?_))|((with_reducible refine NV.eq (b64) ?_))|((with_reducible refine NV.eq (b128) ?_))|((with_reducible first|refine NV.quo ?s ?_|refine NV.rem ?s ?_|refine NV.i64 ?s ?_|refine NV.u32 ?s ?_|refine NV.u8 ?s ?_|refine NV.u64 ?s ?_);case s=>omega)|(with_reducible first|refine NV.divk ?_|refine NV.modk ?_|refine NV.keep ?_)))|((with_reducible refine gI ?_);(first|with_reducible refine NIf.not_ ?_|((with_reducible refine NIf.decY ?s ?_);case s=>first|with_reducible rfl|assumption|omega)|((with_reducible refine NIf.decN ?s ?_);case s=>first|with_reducible rfl|assumption|omega)|((with_reducible refine NIf.yes ?s ?_);case s=>first|rfl|assumption)|((with_reducible refine NIf.no ?s ?_);case s=>first|rfl|assumption)|(with_reducible first|refine NIf.dec (fun _=>?_) (fun _=>?_)|refine NIf.both (fun _=>?_) (fun _=>?_))))|((with_reducible refine gN ?_);(with_reducible first|refine NN.lit ?_|refine NN.cast ?_|refine NN.a1 ?_|refine NN.a2 ?_|refine NN.a3 ?_|refine NN.a4 ?_|refine NN.a5 ?_|refine NN.a6 ?_|refine NN.keep ?_))|((with_reducible refine gH ?_);((with_reducible refine NH.mk ?s ?_);case s=>(and_intros<;>first|with_reducible rfl|((with_reducible refine gOnes ?_);rfl)|((with_reducible refine gLen ?_);rfl)|omega|assumption|exact Nat.le_of_ble_eq_true rfl|(simp only [List.length_append, List.length_cons, List.length_nil]; omega)|rfl)))|((with_reducible refine gC ?_);(first|((with_reducible refine NCall.isF 16 ?_);refine NCall.pureE (ch) ?_)|((with_reducible refine NCall.isF 34 ?_);refine NCall.subE [1] (c1) rfl (by decide) rfl rfl ?_)|((with_reducible refine NCall.isF 34 ?_);refine NCall.subE [1] (c2) rfl (by decide) rfl rfl ?_)|((with_reducible refine NCall.isF 53 ?_);refine NCall.subE [1] (cc) rfl (by decide) rfl rfl ?_)))|(with_reducible refine NS.keep ?_)|(with_reducible refine NLd.of (by with_reducible assumption) ?_))<;>(conv=>whnf))|((with_reducible refine gNO ?_);(first|(refine z36 rfl (by kernel_rfl) ?_; intro K hK; (conv=>whnf))|(refine z37 rfl (by kernel_rfl) ?_; intro K hK; (conv=>whnf))|(refine z38 rfl (by kernel_rfl) ?_)|(refine z39 rfl rfl (by kernel_rfl) (by intro h; cases h) ?_)))|((with_reducible refine gNE ?_);(first|(refine z40 ?_ ?_; (intro K hK; (conv=>whnf)))|(refine z41 ?_ ?_; (intro K hK; (conv=>whnf)))|exact z42))|((with_reducible refine gX ?_);(first|(refine z35 (by kernel_rfl) _ rfl ?_)|(with_reducible first|refine z3 ?_|refine z4 ?_|refine z5 ?_|refine z6 ?_|refine z7 ?_|refine z8 ?_|refine z14 ?_|refine z15 ?_)|((with_reducible refine z29 ?_);intro A B hA hB;(conv=>whnf))))|(with_reducible first|refine z1 ?_|refine z2 ?_|refine z9 ?_|refine z10 ?_|refine z11 ?_|refine z12 ?_|refine z13 ?_|refine z16 ?_|refine z17 ?_|refine z18 ?_|refine z19 ?_|refine z20 ?_|refine z21 ?_|refine z22 ?_|refine z23 ?_)|((with_reducible refine gB ?_);(refine z30 (by decide) ?_))|((with_reducible refine gR ?_);((first|refine z31 rfl ?_|refine z32 rfl ?_);intro K hK;(conv=>whnf)))|((with_reducible refine gF ?_);((refine z33 rfl ?_);intro K hK;(conv=>whnf)))|((refine NFlat_iff.2 ⟨⟨?s1,?s2⟩,?_⟩;(case s1=>decide +kernel);(case s2=>decide +kernel))<;>(conv=>whnf))|((intro _;skip)<;>(conv=>whnf))))
  refine st_auto (α := Heap × Value × List (Pr.Md × Value)) (fun (G, u, ps) => F.le G ∧ ps.map (·.1) = Pr.mdsL q ps.length ∧ ps.length ≤ n ∧ ∀ p ∈ ps, Ru.RowA G p.2 p.1.r) (fun (G, u, ps) => [.keep, .keep, .keep, .keep, .keep, .keep, .keep, .keep, .keep, .keep, .keep, .keep, .keep, .keep, .keep, .keep, .keep, .keep, .keep, .keep, .keep, .keep, .keep, .keep, .keep, .keep, .keep, .keep, .keep, .keep, .keep, .keep, .keep, .keep, .keep, .keep, .keep, .keep, .keep, .keep, .keep, .keep, .keep, .keep, .keep, .keep, .keep, .keep, .keep, .keep, .keep, .keep, .keep, .keep, .keep, .keep, .keep, .set (.int .i64 ps.length), .drop, .drop, .drop, .drop, .drop, .drop, .drop, .drop, .drop, .drop, .drop, .drop, .drop, .drop, .keep])
    (fun (G, u, ps) => [.set (hpB G), .set (RB a (Pr.mdsE q ps.length)), .cells [.int .i64 3, .int .i64 sw, .int .i64 (v1 : Nat), .int .i64 ((v2 : Nat) - 1), .int .i64 0, .int .i64 0, .int .i64 0, .int .i64 0, .int .i64 0, .sl 4 u ps.length], .keep, .set ⟨addrOf u, Pr.psC ps, .row u 42 13 ps.length⟩]) (fun (G, u, ps) => n - ps.length) (F, .slice none 0 0, []) ⟨F.le_refl, rfl, Nat.zero_le _, fun p hp => by simp at hp⟩ ?_ ((MemFits.nilRow _ 42 13).trans (MemFits.congr rfl)) ?_
  · repeat (first | exact FitsSl.nil | refine FitsSl.any ?_ | refine FitsSl.cons (Fit1.int (by first | rfl | omega)) ?_ | refine FitsSl.cons (Fit1.bool rfl) ?_ | refine FitsSl.cons (Fit1.str rfl) ?_ | refine FitsSl.cons (Fit1.same (by intro h; cases h) (by with_reducible rfl)) ?_ | refine FitsSl.cons Fit1.nil_sl ?_ | refine FitsSl.cons (Fit1.hs rfl) ?_ | refine FitsSl.cons (Fit1.hp rfl rfl) ?_ | refine FitsSl.cons (Fit1.sl rfl) ?_ | refine FitsSl.cons (Fit1.ptr rfl rfl) ?_ | refine FitsSl.cons Fit1.raw ?_)
  (intro ⟨G, u, ps⟩ ⟨hle, hmap, hlen, hall⟩; intro K hK; (conv=>whnf); refine hK _ _ ?_; clear hK K)
  dsimp only
  generalize hk : ps.length = k at *
  by_cases hlt : k < n
  · have hk1 := Pr.mdsE_ok hq k
    have d1 := rnum_c a (Pr.mdsE q k) 1 hk1 (by decide)
    have d2 := rflag_c a ((Pr.mdsE q k).num 1).2 (Oct.R.num_keeps hk1)
    have d3 := read10_c G a ((Pr.mdsE q k).num 1).2.flag.2 (Pr.flag_keeps (Oct.R.num_keeps hk1)) 8
    have hx : Pr.mdX (Pr.mdsE q k) = ⟨(((Pr.mdsE q k).num 1).1 : Nat), Ru.rdX 8 ((Pr.mdsE q k).num 1).2.flag.2, ((Pr.mdsE q k).num 1).2.flag.1⟩ := rfl
    have hs : Pr.mdsE q (k + 1) = Ru.rdE 8 ((Pr.mdsE q k).num 1).2.flag.2 := rfl
    have hl : Pr.mdsL q (k + 1) = Pr.mdsL q k ++ [Pr.mdX (Pr.mdsE q k)] := rfl
    have m1 : ((Pr.mdsE q k).num 1).1 < 72057594037927936 := Oct.R.num_lt _ _
    have hpl := Pr.psC_len ps
    generalize Ru.rdE 8 ((Pr.mdsE q k).num 1).2.flag.2 = t3 at *
    generalize Ru.rdX 8 ((Pr.mdsE q k).num 1).2.flag.2 = X at *
    generalize ((Pr.mdsE q k).num 1).2.flag.1 = w2 at *
    generalize ((Pr.mdsE q k).num 1).2.flag.2 = t2 at *
    generalize ((Pr.mdsE q k).num 1).1 = w1 at *
    generalize ((Pr.mdsE q k).num 1).2 = t1 at *
    generalize Pr.mdX (Pr.mdsE q k) = Y at *
    generalize Pr.mdsE q k = t0 at *
    subst hx
    have hnx := Pr.psC_next ps
    obtain ⟨p, ⟨q', z0', z1', z2', z3', m0, m1', m2', m3'⟩, ac⟩ := X
    simp only [ru_cs] at d3
    generalize hpc : Pr.psC ps = pc at *
    (repeat' (first|(with_reducible first|(refine hK _ _ ?_;clear hK K)|(refine hA ?_;clear hA hB A B)|(refine hB ?_;clear hA hB A B)|(refine hK _ ?_;clear hK K))|((with_reducible refine gO ?_);(first|((with_reducible first|refine z25 ?_|refine z26 ?_);intro K hK;(conv=>whnf))|(with_reducible first|refine z0 ?_)))|((first|((with_reducible refine gV ?_);(first|((with_reducible first|refine NV.quo ?s ?_|refine NV.rem ?s ?_|refine NV.i64 ?s ?_|refine NV.u32 ?s ?_|refine NV.u8 ?s ?_|refine NV.u64 ?s ?_);case s=>omega)|(with_reducible first|refine NV.divk ?_|refine NV.modk ?_|refine NV.keep ?_)))|((with_reducible refine gI ?_);(first|with_reducible refine NIf.not_ ?_|((with_reducible refine NIf.decY ?s ?_);case s=>first|with_reducible rfl|assumption|omega)|((with_reducible refine NIf.decN ?s ?_);case s=>first|with_reducible rfl|assumption|omega)|((with_reducible refine NIf.yes ?s ?_);case s=>first|rfl|assumption)|((with_reducible refine NIf.no ?s ?_);case s=>first|rfl|assumption)|(with_reducible first|refine NIf.dec (fun _=>?_) (fun _=>?_)|refine NIf.both (fun _=>?_) (fun _=>?_))))|((with_reducible refine gN ?_);(with_reducible first|refine NN.lit ?_|refine NN.cast ?_|refine NN.a1 ?_|refine NN.a2 ?_|refine NN.a3 ?_|refine NN.a4 ?_|refine NN.a5 ?_|refine NN.a6 ?_|refine NN.keep ?_))|((with_reducible refine gH ?_);((with_reducible refine NH.mk ?s ?_);case s=>(and_intros<;>first|with_reducible rfl|((with_reducible refine gOnes ?_);rfl)|((with_reducible refine gLen ?_);rfl)|omega|assumption|exact Nat.le_of_ble_eq_true rfl|(simp only [List.length_append, List.length_cons, List.length_nil]; omega)|rfl)))|((with_reducible refine gC ?_);(first|((with_reducible refine NCall.isF 34 ?_);refine NCall.subE [1] (d1) rfl (by decide) rfl rfl ?_)|((with_reducible refine NCall.isF 54 ?_);refine NCall.subE [1] (d2) rfl (by decide) rfl rfl ?_)|((with_reducible refine NCall.isF 55 ?_);refine NCall.subw [0, 1] _ _ (d3) rfl (by decide) rfl ?_; rintro _ _ ⟨G', w, hle2, hrow, rfl, rfl⟩; refine ⟨Nat.le_of_ble_eq_true rfl, _, rfl, ?_⟩)))|(with_reducible refine NS.keep ?_)|(with_reducible refine NLd.of (by with_reducible assumption) ?_))<;>(conv=>whnf))|((with_reducible refine gNO ?_);(first|(refine z36 rfl (by kernel_rfl) ?_; intro K hK; (conv=>whnf))|(refine z37 rfl (by kernel_rfl) ?_; intro K hK; (conv=>whnf))|(refine z38 rfl (by kernel_rfl) ?_)|(refine z39 rfl rfl (by kernel_rfl) (by intro h; cases h) ?_)))|((with_reducible refine gNE ?_);(first|(refine z40 ?_ ?_; (intro K hK; (conv=>whnf)))|(refine z41 ?_ ?_; (intro K hK; (conv=>whnf)))|exact z42))|((with_reducible refine gX ?_);(first|(refine z35 (by kernel_rfl) _ rfl ?_)|(with_reducible first|refine z3 ?_|refine z4 ?_|refine z5 ?_|refine z6 ?_|refine z7 ?_|refine z8 ?_|refine z14 ?_|refine z15 ?_)|((with_reducible refine z29 ?_);intro A B hA hB;(conv=>whnf))))|(with_reducible first|refine z1 ?_|refine z2 ?_|refine z9 ?_|refine z10 ?_|refine z11 ?_|refine z12 ?_|refine z13 ?_|refine z16 ?_|refine z17 ?_|refine z18 ?_|refine z19 ?_|refine z20 ?_|refine z21 ?_|refine z22 ?_|refine z23 ?_)|((with_reducible refine gB ?_);(refine z30 (by decide) ?_))|((with_reducible refine gR ?_);((first|refine z31 rfl ?_|refine z32 rfl ?_);intro K hK;(conv=>whnf)))|((with_reducible refine gF ?_);((refine z33 rfl ?_);intro K hK;(conv=>whnf)))|((refine NFlat_iff.2 ⟨⟨?s1,?s2⟩,?_⟩;(case s1=>decide +kernel);(case s2=>decide +kernel))<;>(conv=>whnf))|((intro _;skip)<;>(conv=>whnf))))
    all_goals
      rename_i v9
      refine st_round (G', v9, ps ++ [(⟨w1, ⟨p, ⟨q', z0', z1', z2', z3', m0, m1', m2', m3'⟩, ac⟩, w2⟩, w)]) ⟨hle.trans hle2, by rw [List.map_append, hmap, List.length_append, hk]; exact hl.symm, by rw [List.length_append, hk]; exact hlt, fun x hx => ?_⟩ (by rw [List.length_append, hk]; show n - (k + 1) < n - k; omega) ?_ (MemFits.pre 5 ?_)
      · rcases List.mem_append.1 hx with hx | hx
        · exact RowF.mono hle2 (fun _ _ h => h) (hall x hx)
        · rw [List.mem_singleton.1 hx]; exact hrow
      · simp only [List.length_append, hk]
        repeat (first | exact FitsSl.nil | refine FitsSl.any ?_ | refine FitsSl.cons (Fit1.int (by first | rfl | omega)) ?_ | refine FitsSl.cons (Fit1.bool rfl) ?_ | refine FitsSl.cons (Fit1.str rfl) ?_ | refine FitsSl.cons (Fit1.same (by intro h; cases h) (by with_reducible rfl)) ?_ | refine FitsSl.cons Fit1.nil_sl ?_ | refine FitsSl.cons (Fit1.hs rfl) ?_ | refine FitsSl.cons (Fit1.hp rfl rfl) ?_ | refine FitsSl.cons (Fit1.sl rfl) ?_ | refine FitsSl.cons (Fit1.ptr rfl rfl) ?_ | refine FitsSl.cons Fit1.raw ?_)
      · simp only [autoM, List.take, List.length_append, hk, hnx]
        rw [show k + [((⟨w1, ⟨p, ⟨q', z0', z1', z2', z3', m0, m1', m2', m3'⟩, ac⟩, w2⟩ : Pr.Md), w)].length = k + 1 from rfl, hs]
        rfl
  · have hkn : k = n := by omega
    subst hkn
    (repeat' (first|(with_reducible first|(refine hK _ _ ?_;clear hK K)|(refine hA ?_;clear hA hB A B)|(refine hB ?_;clear hA hB A B)|(refine hK _ ?_;clear hK K))|((with_reducible refine gO ?_);(first|((with_reducible first|refine z25 ?_|refine z26 ?_);intro K hK;(conv=>whnf))|(with_reducible first|refine z0 ?_)))|((first|((with_reducible refine gV ?_);(first|((with_reducible first|refine NV.quo ?s ?_|refine NV.rem ?s ?_|refine NV.i64 ?s ?_|refine NV.u32 ?s ?_|refine NV.u8 ?s ?_|refine NV.u64 ?s ?_);case s=>omega)|(with_reducible first|refine NV.divk ?_|refine NV.modk ?_|refine NV.keep ?_)))|((with_reducible refine gI ?_);(first|with_reducible refine NIf.not_ ?_|((with_reducible refine NIf.decY ?s ?_);case s=>first|with_reducible rfl|assumption|omega)|((with_reducible refine NIf.decN ?s ?_);case s=>first|with_reducible rfl|assumption|omega)|((with_reducible refine NIf.yes ?s ?_);case s=>first|rfl|assumption)|((with_reducible refine NIf.no ?s ?_);case s=>first|rfl|assumption)|(with_reducible first|refine NIf.dec (fun _=>?_) (fun _=>?_)|refine NIf.both (fun _=>?_) (fun _=>?_))))|((with_reducible refine gN ?_);(with_reducible first|refine NN.lit ?_|refine NN.cast ?_|refine NN.a1 ?_|refine NN.a2 ?_|refine NN.a3 ?_|refine NN.a4 ?_|refine NN.a5 ?_|refine NN.a6 ?_|refine NN.keep ?_))|((with_reducible refine gH ?_);((with_reducible refine NH.mk ?s ?_);case s=>(and_intros<;>first|with_reducible rfl|((with_reducible refine gOnes ?_);rfl)|((with_reducible refine gLen ?_);rfl)|omega|assumption|exact Nat.le_of_ble_eq_true rfl|(simp only [List.length_append, List.length_cons, List.length_nil]; omega)|rfl)))|(with_reducible refine NS.keep ?_)|(with_reducible refine NLd.of (by with_reducible assumption) ?_))<;>(conv=>whnf))|((with_reducible refine gNO ?_);(first|(refine z36 rfl (by kernel_rfl) ?_; intro K hK; (conv=>whnf))|(refine z37 rfl (by kernel_rfl) ?_; intro K hK; (conv=>whnf))|(refine z38 rfl (by kernel_rfl) ?_)|(refine z39 rfl rfl (by kernel_rfl) (by intro h; cases h) ?_)))|((with_reducible refine gNE ?_);(first|(refine z40 ?_ ?_; (intro K hK; (conv=>whnf)))|(refine z41 ?_ ?_; (intro K hK; (conv=>whnf)))|exact z42))|((with_reducible refine gX ?_);(first|(refine z35 (by kernel_rfl) _ rfl ?_)|(with_reducible first|refine z3 ?_|refine z4 ?_|refine z5 ?_|refine z6 ?_|refine z7 ?_|refine z8 ?_|refine z14 ?_|refine z15 ?_)|((with_reducible refine z29 ?_);intro A B hA hB;(conv=>whnf))))|(with_reducible first|refine z1 ?_|refine z2 ?_|refine z9 ?_|refine z10 ?_|refine z11 ?_|refine z12 ?_|refine z13 ?_|refine z16 ?_|refine z17 ?_|refine z18 ?_|refine z19 ?_|refine z20 ?_|refine z21 ?_|refine z22 ?_|refine z23 ?_)|((with_reducible refine gB ?_);(refine z30 (by decide) ?_))|((with_reducible refine gR ?_);((first|refine z31 rfl ?_|refine z32 rfl ?_);intro K hK;(conv=>whnf)))|((with_reducible refine gF ?_);((refine z33 rfl ?_);intro K hK;(conv=>whnf)))|((refine NFlat_iff.2 ⟨⟨?s1,?s2⟩,?_⟩;(case s1=>decide +kernel);(case s2=>decide +kernel))<;>(conv=>whnf))|((intro _;skip)<;>(conv=>whnf))))
    all_goals exact ⟨G, u, ps, hle, hmap, hall, rfl, by rw [hk]; exact MemFits.pick [0, 4, 1] (by decide) rfl⟩
theorem Pr.mdRow_of {G : Heap} {u : Value} {ps : List (Pr.Md × Value)} (h : RowF G 13 (fun p vs => vs = Pr.psV p) u ps) (hall : ∀ p ∈ ps, Ru.RowA G p.2 p.1.r) : Pr.MdRow G u (ps.map (·.1)) := by
  refine ⟨by rw [List.length_map]; exact h.ok, fun k x hx => ?_⟩
  rw [List.getElem?_map] at hx
  cases hp : ps[k]? with
  | none => rw [hp] at hx; cases hx
  | some p =>
    rw [hp] at hx
    simp only [Option.map_some, Option.some.injEq] at hx
    subst hx
    obtain ⟨vs, h1, h2, h3⟩ := h.at_ k p hp
    have hr := hall p (List.mem_of_getElem? hp)
    refine ⟨vs, ?_, h2, h3⟩
    obtain ⟨A, cap, hv, hle, hz⟩ := hr.ok
    refine ⟨A, cap, hv ▸ hr, ?_⟩
    rw [h1]
    obtain ⟨⟨xk, ⟨p', ⟨q', z0', z1', z2', z3', m0, m1', m2', m3'⟩, ac⟩, w2⟩, w⟩ := p
    dsimp only at hv
    subst hv
    rfl
/-- What is read lies among what is read alone. -/
theorem Pr.got_know {f : FuncId} {args : List AV} {F : Heap} {a : Addr} {m : List Blk} {X : Pr.Ms} {E : Oct.R} (h : NCall Try.prog f args m fun v m' => Pr.Got F a X E v m') :
    NCall Try.prog f args m fun v m' => ∃ F' u, F.le F' ∧ Pr.MdRow F' u X.mods ∧ v = .agg (X.cs u) ∧ m' = [hpB F', RB a E] := by
  refine Go.Sx.NCall.know h fun r m' ⟨G, u, ps, hle, hmap, hall, hr, hm⟩ ⟨w, hw⟩ => ?_
  have hok := ((hm w hw).1.row (List.mem_cons_of_mem _ (List.mem_cons_self ..))).1
  have hrow := rowF_new (F := G) (sz := 13) (enc := Pr.psV) hok (Pr.psC_den ps) (fun x _ => rfl)
  refine ⟨_, _, hr.symm, hm.trans (MemFits.freeze (m := [RB a E])), _, u, hle.trans addF.old, ?_, rfl, rfl⟩
  rw [← hmap]
  exact Pr.mdRow_of hrow fun p hp => RowF.mono addF.old (fun _ _ h => h) (hall p hp)
theorem read16_c (F : Heap) (a : Addr) (r : Oct.R) (h : r.ok) (k sw : Int) :
    NCall Try.prog 36 [.ptr 1 a 0, .agg [.int .i64 k, .int .i64 sw, .int .i64 0, .int .i64 0, .int .i64 0, .int .i64 0, .int .i64 0, .int .i64 0, .int .i64 0, .raw (.slice none 0 0)]] [hpB F, RB a r] fun v m =>
      ∃ F' u, F.le F' ∧ Pr.MdRow F' u (Pr.msV k sw r).mods ∧ v = .agg ((Pr.msV k sw r).cs u) ∧ m = [hpB F', RB a (Pr.e8 k r)] := by
  refine Pr.got_know ?_
  by_cases hk : 1 ≤ k ∧ k ≤ 8
  · have : k = 1 ∨ k = 2 ∨ k = 3 ∨ k = 4 ∨ k = 5 ∨ k = 6 ∨ k = 7 ∨ k = 8 := by omega
    rcases this with rfl | rfl | rfl | rfl | rfl | rfl | rfl | rfl
    · exact read16_1 F a r h sw
    · exact read16_2 F a r h sw
    · exact read16_3 F a r h sw
    · exact read16_4 F a r h sw
    · exact read16_5 F a r h sw
    · exact read16_6 F a r h sw
    · exact read16_7 F a r h sw
    · exact read16_8 F a r h sw
  · exact read16_z F a r h k sw hk
end Go.Proofs.Ytlcleiekeapkdaa

