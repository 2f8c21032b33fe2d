/-
  Rules that overlap do so the other way round, and a packet is hit by both.
-/
import Derived.Test.YtokpkddeijfjjaaDoorRu2
import Derived.Test.YtokpkddeijfjjaaDoorRu3
namespace Go.Proofs.YtokpkddeijfjjaaDoor
open Go.Sx
set_option maxRecDepth 20000
set_option linter.unusedSimpArgs false
set_option linter.unusedVariables false
set_option maxHeartbeats 4000000
set_option linter.unusedVariables false
theorem Ru.hits_meet {a b : Mt.N} (ha : a.ok) (hb : b.ok) (h : Mt.meets a b) : Mt.hits a (max (Mt.meet a b).p 0) (fun f => (Mt.meet a b).v f) ∧ Mt.hits b (max (Mt.meet a b).p 0) (fun f => (Mt.meet a b).v f) := by
  have hg := Mt.meet_ok ha hb
  refine (Mt.both a b ha hb _ _).2 ⟨h, ?_, fun f hf => ?_⟩
  · have := hg.1
    omega
  · unfold Mt.hit1; simp
theorem Ru.overs_comm (x y : Ru.R) (a b : Mt.N) : Ru.overs x y a b ↔ Ru.overs y x b a := by
  unfold Ru.overs
  rw [Mt.meets_comm a b]
  constructor
  · rintro ⟨h1, h2, h3⟩; exact ⟨h1.symm, fun e => h2 e.symm, h3⟩
  · rintro ⟨h1, h2, h3⟩; exact ⟨h1.symm, fun e => h2 e.symm, h3⟩
theorem overBad_c (F : Heap) (hF : TabF F) (x y : Ru.R) (v w : Value) (hv : Ru.RowA F v x) (hw : Ru.RowA F w y) (hx : x.in64) (hy : y.in64) (ports : Int) (h : ¬ (Ru.ok ports x ∧ Ru.ok ports y)) :
    NCall Tryd.prog 7 [.agg (x.cs v), .agg (y.cs w), .int .i64 ports] [hpB F] fun r _ => r = .bool true := by
  have c1 := refright10_c F v x hv hx ports
  have c2 := refright10_c F w y hw hy ports
  have haw := awake10_c F hF
  refine ncall_of Tryd.func7 rfl (by decide) ?_
  simp only [Ru.R.cs] at *
  by_cases h1 : Ru.ok ports x
  · have h2 : ¬ Ru.ok ports y := fun e => h ⟨h1, e⟩
    rw [decide_eq_true h1] at c1
    rw [decide_eq_false h2] at c2
    (repeat' (first | (refine z35 (by kernel_rfl) _ rfl ?_) | (refine z36 rfl (by kernel_rfl) ?_; intro K hK; (conv=>whnf)) | (refine z37 rfl (by kernel_rfl) ?_; intro K hK; (conv=>whnf)) | (refine z38 rfl (by kernel_rfl) ?_) | (refine z39 rfl rfl (by kernel_rfl) (by intro h; cases h) ?_) | (refine z40 ?_ ?_; (intro K hK; (conv=>whnf))) | (refine z41 ?_ ?_; (intro K hK; (conv=>whnf))) | exact z42 | (with_reducible first|refine z0 ?_|refine z1 ?_|refine z2 ?_|refine z3 ?_|refine z4 ?_|refine z5 ?_|refine z6 ?_|refine z7 ?_|refine z8 ?_|refine z9 ?_|refine z10 ?_|refine z11 ?_|refine z12 ?_|refine z13 ?_|refine z14 ?_|refine z15 ?_|refine z16 ?_|refine z17 ?_|refine z18 ?_|refine z19 ?_|refine z20 ?_|refine z21 ?_|refine z22 ?_|refine z23 ?_|refine z24 ?_) | (((with_reducible first|refine z25 ?_|refine z26 ?_);intro K hK;(conv=>whnf))) | (with_reducible first|(refine hK _ _ ?_;clear hK K)|(refine hA ?_;clear hA hB A B)|(refine hB ?_;clear hA hB A B)|(refine hK _ ?_;clear hK K)) | ((with_reducible refine z29 ?_);intro A B hA hB;(conv=>whnf)) | (refine z30 (by decide) ?_) | ((first|refine z31 rfl ?_|refine z32 rfl ?_|refine z33 rfl ?_);intro K hK;(conv=>whnf)) | ((with_reducible refine NCall.isF 30 ?_); (refine NCall.subw [0] _ _ (c1) rfl (by decide) rfl ?_; rintro _ _ ⟨rfl, rfl⟩; refine ⟨Nat.le_of_ble_eq_true rfl, _, rfl, ?_⟩; (conv=>whnf))) | ((with_reducible refine NCall.isF 30 ?_); (refine NCall.subw [0] _ _ (c2) rfl (by decide) rfl ?_; rintro _ _ ⟨rfl, rfl⟩; refine ⟨Nat.le_of_ble_eq_true rfl, _, rfl, ?_⟩; (conv=>whnf))) | ((with_reducible refine NCall.isF 29 ?_); (refine NCall.subw [0] _ _ (haw) rfl (by decide) rfl ?_; rintro _ _ ⟨rfl, rfl⟩; refine ⟨Nat.le_of_ble_eq_true rfl, _, rfl, ?_⟩; (conv=>whnf))) | (((with_reducible first|refine NV.quo ?s ?_|refine NV.rem ?s ?_|refine NV.i64 ?s ?_|refine NV.u32 ?s ?_|refine NV.u8 ?s ?_|refine NV.u64 ?s ?_);case s=>omega)<;>(conv=>whnf)) | ((with_reducible first|refine NV.divk ?_|refine NV.modk ?_|refine NN.lit ?_|refine NN.cast ?_|refine NN.a1 ?_|refine NN.a2 ?_|refine NN.a3 ?_|refine NN.a4 ?_|refine NN.a5 ?_|refine NN.a6 ?_|refine NV.keep ?_|refine NN.keep ?_|refine NS.keep ?_|refine NIf.not_ ?_)<;>(conv=>whnf)) | (((with_reducible refine NH.mk ?s ?_);case s=>(and_intros <;> first | with_reducible rfl | omega | assumption | exact Nat.le_of_ble_eq_true rfl | (simp only [List.length_append, List.length_cons, List.length_nil]; omega) | rfl))<;>(conv=>whnf)) | (((with_reducible refine NIf.decY ?s ?_);case s=>first|with_reducible rfl|assumption|omega)<;>(conv=>whnf)) | (((with_reducible refine NIf.decN ?s ?_);case s=>first|with_reducible rfl|assumption|omega)<;>(conv=>whnf)) | (((with_reducible refine NIf.yes ?s ?_);case s=>first|rfl|assumption)<;>(conv=>whnf)) | (((with_reducible refine NIf.no ?s ?_);case s=>first|rfl|assumption)<;>(conv=>whnf)) | (((with_reducible refine NLd.of (by with_reducible assumption) ?_))<;>(conv=>whnf)) | ((refine NFlat_iff.2 ⟨⟨?s1,?s2⟩,?_⟩;(case s1=>decide +kernel);(case s2=>decide +kernel))<;>(conv=>whnf)) | ((with_reducible first|refine NIf.dec (fun _=>?_) (fun _=>?_)|refine NIf.both (fun _=>?_) (fun _=>?_))<;>(conv=>whnf)) | ((intro _;skip)<;>(conv=>whnf))))
    all_goals rfl
  · rw [decide_eq_false h1] at c1
    (repeat' (first | (refine z35 (by kernel_rfl) _ rfl ?_) | (refine z36 rfl (by kernel_rfl) ?_; intro K hK; (conv=>whnf)) | (refine z37 rfl (by kernel_rfl) ?_; intro K hK; (conv=>whnf)) | (refine z38 rfl (by kernel_rfl) ?_) | (refine z39 rfl rfl (by kernel_rfl) (by intro h; cases h) ?_) | (refine z40 ?_ ?_; (intro K hK; (conv=>whnf))) | (refine z41 ?_ ?_; (intro K hK; (conv=>whnf))) | exact z42 | (with_reducible first|refine z0 ?_|refine z1 ?_|refine z2 ?_|refine z3 ?_|refine z4 ?_|refine z5 ?_|refine z6 ?_|refine z7 ?_|refine z8 ?_|refine z9 ?_|refine z10 ?_|refine z11 ?_|refine z12 ?_|refine z13 ?_|refine z14 ?_|refine z15 ?_|refine z16 ?_|refine z17 ?_|refine z18 ?_|refine z19 ?_|refine z20 ?_|refine z21 ?_|refine z22 ?_|refine z23 ?_|refine z24 ?_) | (((with_reducible first|refine z25 ?_|refine z26 ?_);intro K hK;(conv=>whnf))) | (with_reducible first|(refine hK _ _ ?_;clear hK K)|(refine hA ?_;clear hA hB A B)|(refine hB ?_;clear hA hB A B)|(refine hK _ ?_;clear hK K)) | ((with_reducible refine z29 ?_);intro A B hA hB;(conv=>whnf)) | (refine z30 (by decide) ?_) | ((first|refine z31 rfl ?_|refine z32 rfl ?_|refine z33 rfl ?_);intro K hK;(conv=>whnf)) | ((with_reducible refine NCall.isF 30 ?_); (refine NCall.subw [0] _ _ (c1) rfl (by decide) rfl ?_; rintro _ _ ⟨rfl, rfl⟩; refine ⟨Nat.le_of_ble_eq_true rfl, _, rfl, ?_⟩; (conv=>whnf))) | ((with_reducible refine NCall.isF 29 ?_); (refine NCall.subw [0] _ _ (haw) rfl (by decide) rfl ?_; rintro _ _ ⟨rfl, rfl⟩; refine ⟨Nat.le_of_ble_eq_true rfl, _, rfl, ?_⟩; (conv=>whnf))) | (((with_reducible first|refine NV.quo ?s ?_|refine NV.rem ?s ?_|refine NV.i64 ?s ?_|refine NV.u32 ?s ?_|refine NV.u8 ?s ?_|refine NV.u64 ?s ?_);case s=>omega)<;>(conv=>whnf)) | ((with_reducible first|refine NV.divk ?_|refine NV.modk ?_|refine NN.lit ?_|refine NN.cast ?_|refine NN.a1 ?_|refine NN.a2 ?_|refine NN.a3 ?_|refine NN.a4 ?_|refine NN.a5 ?_|refine NN.a6 ?_|refine NV.keep ?_|refine NN.keep ?_|refine NS.keep ?_|refine NIf.not_ ?_)<;>(conv=>whnf)) | (((with_reducible refine NH.mk ?s ?_);case s=>(and_intros <;> first | with_reducible rfl | omega | assumption | exact Nat.le_of_ble_eq_true rfl | (simp only [List.length_append, List.length_cons, List.length_nil]; omega) | rfl))<;>(conv=>whnf)) | (((with_reducible refine NIf.decY ?s ?_);case s=>first|with_reducible rfl|assumption|omega)<;>(conv=>whnf)) | (((with_reducible refine NIf.decN ?s ?_);case s=>first|with_reducible rfl|assumption|omega)<;>(conv=>whnf)) | (((with_reducible refine NIf.yes ?s ?_);case s=>first|rfl|assumption)<;>(conv=>whnf)) | (((with_reducible refine NIf.no ?s ?_);case s=>first|rfl|assumption)<;>(conv=>whnf)) | (((with_reducible refine NLd.of (by with_reducible assumption) ?_))<;>(conv=>whnf)) | ((refine NFlat_iff.2 ⟨⟨?s1,?s2⟩,?_⟩;(case s1=>decide +kernel);(case s2=>decide +kernel))<;>(conv=>whnf)) | ((with_reducible first|refine NIf.dec (fun _=>?_) (fun _=>?_)|refine NIf.both (fun _=>?_) (fun _=>?_))<;>(conv=>whnf)) | ((intro _;skip)<;>(conv=>whnf))))
    all_goals rfl
theorem overYes_c (F : Heap) (hF : TabF F) (x y : Ru.R) (v w : Value) (hv : Ru.RowA F v x) (hw : Ru.RowA F w y) (hx : x.in64) (hy : y.in64) (ports : Int) (h1 : Ru.ok ports x) (h2 : Ru.ok ports y) (a b : Mt.N) (ha : x.m = a.toM) (hb : y.m = b.toM) (hao : a.ok) (hbo : b.ok) (ho : Ru.overs x y a b) :
    NCall Tryd.prog 7 [.agg (x.cs v), .agg (y.cs w), .int .i64 ports] [hpB F] fun r _ => r = .bool true := by
  have c1 := refright10_c F v x hv hx ports
  have c2 := refright10_c F w y hw hy ports
  have haw := awake10_c F hF
  have o1 := overlaps10_c x y v w a b ha hb hao hbo
  have o2 := overlaps10_c y x w v b a hb ha hbo hao
  have o3 := overlaps10_c x x v v a a ha ha hao hao
  have a1 := ahead10_c x y v w
  have a2 := ahead10_c y x w v
  have k1 := key10_c x y v w
  have hm := meet_c a b hao.lt hbo.lt
  rw [decide_eq_true h1] at c1
  rw [decide_eq_true h2] at c2
  rw [decide_eq_true ho] at o1
  rw [decide_eq_true ((Ru.overs_comm x y a b).1 ho)] at o2
  rw [decide_eq_false (fun e => e.2.1 rfl)] at o3
  rw [decide_eq_false (by have := ho.1; omega)] at a1 a2
  rw [decide_eq_false (fun e => ho.2.1 e.2)] at k1
  rw [if_pos ho.2.2, decide_eq_true ho.2.2] at hm
  obtain ⟨hh1, hh2⟩ := Ru.hits_meet hao hbo ho.2.2
  have hlt := (Mt.meet_ok hao hbo).lt
  have t1 := hits_c a hao.lt (max (Mt.meet a b).p 0) (fun f => (Mt.meet a b).v f) (fun f hf => (hlt f hf).1)
  have t2 := hits_c b hbo.lt (max (Mt.meet a b).p 0) (fun f => (Mt.meet a b).v f) (fun f hf => (hlt f hf).1)
  rw [decide_eq_true hh1] at t1
  rw [decide_eq_true hh2] at t2
  rw [← ha] at hm t1
  rw [← hb] at hm t2
  generalize Mt.meet a b = g at *
  obtain ⟨gp, g0, g1, g2, g3, y0, y1, y2, y3⟩ := g
  refine ncall_of Tryd.func7 rfl (by decide) ?_
  simp only [Ru.R.cs, Mt.M.av, Mt.N.toM, pkAv, Mt.N.v] at *
  generalize hmx : max gp 0 = mx at *
  (repeat' (first | (refine z35 (by kernel_rfl) _ rfl ?_) | (refine z36 rfl (by kernel_rfl) ?_; intro K hK; (conv=>whnf)) | (refine z37 rfl (by kernel_rfl) ?_; intro K hK; (conv=>whnf)) | (refine z38 rfl (by kernel_rfl) ?_) | (refine z39 rfl rfl (by kernel_rfl) (by intro h; cases h) ?_) | (refine z40 ?_ ?_; (intro K hK; (conv=>whnf))) | (refine z41 ?_ ?_; (intro K hK; (conv=>whnf))) | exact z42 | (with_reducible first|refine z0 ?_|refine z1 ?_|refine z2 ?_|refine z3 ?_|refine z4 ?_|refine z5 ?_|refine z6 ?_|refine z7 ?_|refine z8 ?_|refine z9 ?_|refine z10 ?_|refine z11 ?_|refine z12 ?_|refine z13 ?_|refine z14 ?_|refine z15 ?_|refine z16 ?_|refine z17 ?_|refine z18 ?_|refine z19 ?_|refine z20 ?_|refine z21 ?_|refine z22 ?_|refine z23 ?_|refine z24 ?_) | (((with_reducible first|refine z25 ?_|refine z26 ?_);intro K hK;(conv=>whnf))) | (with_reducible first|(refine hK _ _ ?_;clear hK K)|(refine hA ?_;clear hA hB A B)|(refine hB ?_;clear hA hB A B)|(refine hK _ ?_;clear hK K)) | ((with_reducible refine z29 ?_);intro A B hA hB;(conv=>whnf)) | (refine z30 (by decide) ?_) | ((first|refine z31 rfl ?_|refine z32 rfl ?_|refine z33 rfl ?_);intro K hK;(conv=>whnf)) | ((with_reducible refine NV.eq (hmx) ?_) <;> (conv=>whnf)) | ((with_reducible refine NCall.isF 30 ?_); (refine NCall.subw [0] _ _ (c1) rfl (by decide) rfl ?_; rintro _ _ ⟨rfl, rfl⟩; refine ⟨Nat.le_of_ble_eq_true rfl, _, rfl, ?_⟩; (conv=>whnf))) | ((with_reducible refine NCall.isF 30 ?_); (refine NCall.subw [0] _ _ (c2) rfl (by decide) rfl ?_; rintro _ _ ⟨rfl, rfl⟩; refine ⟨Nat.le_of_ble_eq_true rfl, _, rfl, ?_⟩; (conv=>whnf))) | ((with_reducible refine NCall.isF 31 ?_); (refine NCall.pure (o1) ?_; rintro _ _ rfl; refine ⟨_, rfl, ?_⟩; (conv=>whnf))) | ((with_reducible refine NCall.isF 31 ?_); (refine NCall.pure (o2) ?_; rintro _ _ rfl; refine ⟨_, rfl, ?_⟩; (conv=>whnf))) | ((with_reducible refine NCall.isF 31 ?_); (refine NCall.pure (o3) ?_; rintro _ _ rfl; refine ⟨_, rfl, ?_⟩; (conv=>whnf))) | ((with_reducible refine NCall.isF 32 ?_); (refine NCall.pure (a1) ?_; rintro _ _ rfl; refine ⟨_, rfl, ?_⟩; (conv=>whnf))) | ((with_reducible refine NCall.isF 32 ?_); (refine NCall.pure (a2) ?_; rintro _ _ rfl; refine ⟨_, rfl, ?_⟩; (conv=>whnf))) | ((with_reducible refine NCall.isF 33 ?_); (refine NCall.pure (k1) ?_; rintro _ _ rfl; refine ⟨_, rfl, ?_⟩; (conv=>whnf))) | ((with_reducible refine NCall.isF 34 ?_); (refine NCall.pure (hm) ?_; rintro _ _ rfl; refine ⟨_, rfl, ?_⟩; (conv=>whnf))) | ((with_reducible refine NCall.isF 35 ?_); (refine NCall.pure (t1) ?_; rintro _ _ rfl; refine ⟨_, rfl, ?_⟩; (conv=>whnf))) | ((with_reducible refine NCall.isF 35 ?_); (refine NCall.pure (t2) ?_; rintro _ _ rfl; refine ⟨_, rfl, ?_⟩; (conv=>whnf))) | ((with_reducible refine NCall.isF 29 ?_); (refine NCall.subw [0] _ _ (haw) rfl (by decide) rfl ?_; rintro _ _ ⟨rfl, rfl⟩; refine ⟨Nat.le_of_ble_eq_true rfl, _, rfl, ?_⟩; (conv=>whnf))) | (((with_reducible first|refine NV.quo ?s ?_|refine NV.rem ?s ?_|refine NV.i64 ?s ?_|refine NV.u32 ?s ?_|refine NV.u8 ?s ?_|refine NV.u64 ?s ?_);case s=>omega)<;>(conv=>whnf)) | ((with_reducible first|refine NV.divk ?_|refine NV.modk ?_|refine NN.lit ?_|refine NN.cast ?_|refine NN.a1 ?_|refine NN.a2 ?_|refine NN.a3 ?_|refine NN.a4 ?_|refine NN.a5 ?_|refine NN.a6 ?_|refine NV.keep ?_|refine NN.keep ?_|refine NS.keep ?_|refine NIf.not_ ?_)<;>(conv=>whnf)) | (((with_reducible refine NH.mk ?s ?_);case s=>(and_intros <;> first | with_reducible rfl | omega | assumption | exact Nat.le_of_ble_eq_true rfl | (simp only [List.length_append, List.length_cons, List.length_nil]; omega) | rfl))<;>(conv=>whnf)) | (((with_reducible refine NIf.decY ?s ?_);case s=>first|with_reducible rfl|assumption|omega)<;>(conv=>whnf)) | (((with_reducible refine NIf.decN ?s ?_);case s=>first|with_reducible rfl|assumption|omega)<;>(conv=>whnf)) | (((with_reducible refine NIf.yes ?s ?_);case s=>first|rfl|assumption)<;>(conv=>whnf)) | (((with_reducible refine NIf.no ?s ?_);case s=>first|rfl|assumption)<;>(conv=>whnf)) | (((with_reducible refine NLd.of (by with_reducible assumption) ?_))<;>(conv=>whnf)) | ((refine NFlat_iff.2 ⟨⟨?s1,?s2⟩,?_⟩;(case s1=>decide +kernel);(case s2=>decide +kernel))<;>(conv=>whnf)) | ((with_reducible first|refine NIf.dec (fun _=>?_) (fun _=>?_)|refine NIf.both (fun _=>?_) (fun _=>?_))<;>(conv=>whnf)) | ((intro _;skip)<;>(conv=>whnf))))
  all_goals rfl
theorem overNo_c (F : Heap) (hF : TabF F) (x y : Ru.R) (v w : Value) (hv : Ru.RowA F v x) (hw : Ru.RowA F w y) (hx : x.in64) (hy : y.in64) (ports : Int) (h1 : Ru.ok ports x) (h2 : Ru.ok ports y) (a b : Mt.N) (ha : x.m = a.toM) (hb : y.m = b.toM) (hao : a.ok) (hbo : b.ok) (ho : ¬ Ru.overs x y a b) :
    NCall Tryd.prog 7 [.agg (x.cs v), .agg (y.cs w), .int .i64 ports] [hpB F] fun r _ => r = .bool true := by
  have c1 := refright10_c F v x hv hx ports
  have c2 := refright10_c F w y hw hy ports
  have haw := awake10_c F hF
  have o1 := overlaps10_c x y v w a b ha hb hao hbo
  have o2 := overlaps10_c y x w v b a hb ha hbo hao
  have o3 := overlaps10_c x x v v a a ha ha hao hao
  have hm := meet_c a b hao.lt hbo.lt
  rw [decide_eq_true h1] at c1
  rw [decide_eq_true h2] at c2
  rw [decide_eq_false ho] at o1
  rw [decide_eq_false (fun e => ho ((Ru.overs_comm x y a b).2 e))] at o2
  rw [decide_eq_false (fun e => e.2.1 rfl)] at o3
  have hz : ∃ q g0 g1 g2 g3 y0 y1 y2 y3 : Int, (if Mt.meets a b then AV.agg (Mt.meet a b).toM.av else mtZ) = .agg [.int .i64 q, .int .i64 g0, .int .i64 g1, .int .i64 g2, .int .i64 g3, .int .i64 y0, .int .i64 y1, .int .i64 y2, .int .i64 y3] := by
    split
    · exact ⟨_, _, _, _, _, _, _, _, _, rfl⟩
    · exact ⟨_, _, _, _, _, _, _, _, _, rfl⟩
  obtain ⟨q, g0, g1, g2, g3, y0, y1, y2, y3, hz⟩ := hz
  rw [hz, ← ha, ← hb] at hm
  generalize decide (Mt.meets a b) = mt at *
  refine ncall_of Tryd.func7 rfl (by decide) ?_
  simp only [Ru.R.cs, Mt.M.av] at *
  (repeat' (first | (refine z35 (by kernel_rfl) _ rfl ?_) | (refine z36 rfl (by kernel_rfl) ?_; intro K hK; (conv=>whnf)) | (refine z37 rfl (by kernel_rfl) ?_; intro K hK; (conv=>whnf)) | (refine z38 rfl (by kernel_rfl) ?_) | (refine z39 rfl rfl (by kernel_rfl) (by intro h; cases h) ?_) | (refine z40 ?_ ?_; (intro K hK; (conv=>whnf))) | (refine z41 ?_ ?_; (intro K hK; (conv=>whnf))) | exact z42 | (with_reducible first|refine z0 ?_|refine z1 ?_|refine z2 ?_|refine z3 ?_|refine z4 ?_|refine z5 ?_|refine z6 ?_|refine z7 ?_|refine z8 ?_|refine z9 ?_|refine z10 ?_|refine z11 ?_|refine z12 ?_|refine z13 ?_|refine z14 ?_|refine z15 ?_|refine z16 ?_|refine z17 ?_|refine z18 ?_|refine z19 ?_|refine z20 ?_|refine z21 ?_|refine z22 ?_|refine z23 ?_|refine z24 ?_) | (((with_reducible first|refine z25 ?_|refine z26 ?_);intro K hK;(conv=>whnf))) | (with_reducible first|(refine hK _ _ ?_;clear hK K)|(refine hA ?_;clear hA hB A B)|(refine hB ?_;clear hA hB A B)|(refine hK _ ?_;clear hK K)) | ((with_reducible refine z29 ?_);intro A B hA hB;(conv=>whnf)) | (refine z30 (by decide) ?_) | ((first|refine z31 rfl ?_|refine z32 rfl ?_|refine z33 rfl ?_);intro K hK;(conv=>whnf)) | ((with_reducible refine NCall.isF 30 ?_); (refine NCall.subw [0] _ _ (c1) rfl (by decide) rfl ?_; rintro _ _ ⟨rfl, rfl⟩; refine ⟨Nat.le_of_ble_eq_true rfl, _, rfl, ?_⟩; (conv=>whnf))) | ((with_reducible refine NCall.isF 30 ?_); (refine NCall.subw [0] _ _ (c2) rfl (by decide) rfl ?_; rintro _ _ ⟨rfl, rfl⟩; refine ⟨Nat.le_of_ble_eq_true rfl, _, rfl, ?_⟩; (conv=>whnf))) | ((with_reducible refine NCall.isF 31 ?_); (refine NCall.pure (o1) ?_; rintro _ _ rfl; refine ⟨_, rfl, ?_⟩; (conv=>whnf))) | ((with_reducible refine NCall.isF 31 ?_); (refine NCall.pure (o2) ?_; rintro _ _ rfl; refine ⟨_, rfl, ?_⟩; (conv=>whnf))) | ((with_reducible refine NCall.isF 31 ?_); (refine NCall.pure (o3) ?_; rintro _ _ rfl; refine ⟨_, rfl, ?_⟩; (conv=>whnf))) | ((with_reducible refine NCall.isF 34 ?_); (refine NCall.pure (hm) ?_; rintro _ _ rfl; refine ⟨_, rfl, ?_⟩; (conv=>whnf))) | ((with_reducible refine NCall.isF 29 ?_); (refine NCall.subw [0] _ _ (haw) rfl (by decide) rfl ?_; rintro _ _ ⟨rfl, rfl⟩; refine ⟨Nat.le_of_ble_eq_true rfl, _, rfl, ?_⟩; (conv=>whnf))) | (((with_reducible first|refine NV.quo ?s ?_|refine NV.rem ?s ?_|refine NV.i64 ?s ?_|refine NV.u32 ?s ?_|refine NV.u8 ?s ?_|refine NV.u64 ?s ?_);case s=>omega)<;>(conv=>whnf)) | ((with_reducible first|refine NV.divk ?_|refine NV.modk ?_|refine NN.lit ?_|refine NN.cast ?_|refine NN.a1 ?_|refine NN.a2 ?_|refine NN.a3 ?_|refine NN.a4 ?_|refine NN.a5 ?_|refine NN.a6 ?_|refine NV.keep ?_|refine NN.keep ?_|refine NS.keep ?_|refine NIf.not_ ?_)<;>(conv=>whnf)) | (((with_reducible refine NH.mk ?s ?_);case s=>(and_intros <;> first | with_reducible rfl | omega | assumption | exact Nat.le_of_ble_eq_true rfl | (simp only [List.length_append, List.length_cons, List.length_nil]; omega) | rfl))<;>(conv=>whnf)) | (((with_reducible refine NIf.decY ?s ?_);case s=>first|with_reducible rfl|assumption|omega)<;>(conv=>whnf)) | (((with_reducible refine NIf.decN ?s ?_);case s=>first|with_reducible rfl|assumption|omega)<;>(conv=>whnf)) | (((with_reducible refine NIf.yes ?s ?_);case s=>first|rfl|assumption)<;>(conv=>whnf)) | (((with_reducible refine NIf.no ?s ?_);case s=>first|rfl|assumption)<;>(conv=>whnf)) | (((with_reducible refine NLd.of (by with_reducible assumption) ?_))<;>(conv=>whnf)) | ((refine NFlat_iff.2 ⟨⟨?s1,?s2⟩,?_⟩;(case s1=>decide +kernel);(case s2=>decide +kernel))<;>(conv=>whnf)) | ((with_reducible first|refine NIf.dec (fun _=>?_) (fun _=>?_)|refine NIf.both (fun _=>?_) (fun _=>?_))<;>(conv=>whnf)) | ((intro _;skip)<;>(conv=>whnf))))
  all_goals rfl
theorem ruleOverlaps_c (F : Heap) (hF : TabF F) (x y : Ru.R) (v w : Value) (hv : Ru.RowA F v x) (hw : Ru.RowA F w y) (hx : x.in64) (hy : y.in64) (ports : Int) :
    NCall Tryd.prog 7 [.agg (x.cs v), .agg (y.cs w), .int .i64 ports] [hpB F] fun r _ => r = .bool true := by
  by_cases h : Ru.ok ports x ∧ Ru.ok ports y
  · obtain ⟨a, ha⟩ := Mt.M.toN h.1.2.2.1
    obtain ⟨b, hb⟩ := Mt.M.toN h.2.2.2.1
    have hao : a.ok := (Mt.N.ok_iff a).1 (ha ▸ h.1.2.2.1)
    have hbo : b.ok := (Mt.N.ok_iff b).1 (hb ▸ h.2.2.2.1)
    by_cases ho : Ru.overs x y a b
    · exact overYes_c F hF x y v w hv hw hx hy ports h.1 h.2 a b ha hb hao hbo ho
    · exact overNo_c F hF x y v w hv hw hx hy ports h.1 h.2 a b ha hb hao hbo ho
  · exact overBad_c F hF x y v w hv hw hx hy ports h
end Go.Proofs.YtokpkddeijfjjaaDoor
