/-
  Packets: a number put into field 1.
-/
import Derived.Test.YtokbckflleaplaaDoorPk9q
namespace Go.Proofs.YtokbckflleaplaaDoor
open Go.Sx
set_option maxRecDepth 20000
set_option linter.unusedSimpArgs false
set_option linter.unusedVariables false
set_option maxHeartbeats 8000000
set_option linter.unusedVariables false
theorem back_1_s (F : Heap) (hF : TabF F) (hE : ErrF F) (p : Ac.P4) (hp : Pk.in64 p) (ho : Pk.okP p) (f v g : Int) (hfk : f = 1) (hv : Ac.valid f v) (hgf : g = f) : NCall Tryd.prog 13 [.agg p.av, .int .i64 f, .int .i64 v, .int .i64 g] [hpB F] fun r _ => r = .bool true := by
  have r1 := right7_c p
  have c1 := code7_c p hp
  have aw := awake7_c F hF hE
  rw [decide_eq_true ho] at r1
  have x1 := text7_c F hF p hp
  have hpt := Pk.parse_text ho
  have p1 := parse7_k F hF hE (Pk.text p) (Pk.text_len hp)
  rw [hpt] at p1
  simp only [Option.getD_some, Option.isSome_some, if_true] at p1
  obtain ⟨k1, k2, k3⟩ := Pk.read_back ho
  have hr0 : (⟨Pk.code p, 0, 0⟩ : Oct.R).ok := ⟨Nat.zero_le _, by dsimp only; omega, by dsimp only; omega, by dsimp only; omega⟩
  have rd : ∀ a, _ := fun a => read7_c a ⟨Pk.code p, 0, 0⟩ hr0
  have hr3 := Pk.rdR_ok hr0
  rw [k1, k2] at rd
  rw [k2] at hr3
  have e5 : ∀ a', _ := fun a' => rfin_c a' _ hr3
  have k4 : (⟨Pk.code p, 4, 0⟩ : Oct.R).fin = ⟨Pk.code p, 4, 0⟩ := by
    unfold Oct.R.fin Oct.R.left
    rw [if_pos rfl, if_neg (by dsimp only; omega)]
  rw [k4] at e5
  dsimp only at e5
  have w1 := with7_c p f v
  have t1 := topA_c f
  have g2 := get7_c p g
  generalize (⟨Pk.code p, 4, 0⟩ : Oct.R) = R9 at *
  generalize Pk.code p = cc at *
  generalize Pk.text p = tx at *
  have r2 := right7_c (Ac.withF p f v)
  rw [decide_eq_true (Pk.with_ok ho f v)] at r2
  have g1 := get7_c (Ac.withF p f v) g
  have g3 := get7_c (Ac.withF p f v) f
  have w2 := with7_c (Ac.withF p f v) f (p.get f)
  rw [Pk.get_same hv] at g3
  rw [Pk.with_back ho hv] at w2
  clear k1 k2 hpt
  generalize Ac.withF p f v = W at *
  generalize Pk.get p g = gp at *
  obtain ⟨v0, v1, v2, v3⟩ := hv
  generalize Mt.top f = tp at *
  subst hfk
  obtain ⟨pa, pb, pc, pd⟩ := p
  obtain ⟨wa, wb, wc, wd⟩ := W
  refine ncall_of Tryd.func13 rfl (by decide) ?_
  simp only [Ac.P4.av, Ac.P4.get] at *
  subst hgf
  (repeat' (first | (refine z35 (by kernel_rfl) _ rfl ?_) | (refine z36 rfl (by kernel_rfl) ?_; intro K hK; (conv=>whnf)) | (refine z37 rfl (by kernel_rfl) ?_; intro K hK; (conv=>whnf)) | (refine z38 rfl (by kernel_rfl) ?_) | (refine z39 rfl rfl (by kernel_rfl) (by intro h; cases h) ?_) | (refine z40 ?_ ?_; (intro K hK; (conv=>whnf))) | (refine z41 ?_ ?_; (intro K hK; (conv=>whnf))) | exact z42 | (with_reducible first|refine z0 ?_|refine z1 ?_|refine z2 ?_|refine z3 ?_|refine z4 ?_|refine z5 ?_|refine z6 ?_|refine z7 ?_|refine z8 ?_|refine z9 ?_|refine z10 ?_|refine z11 ?_|refine z12 ?_|refine z13 ?_|refine z14 ?_|refine z15 ?_|refine z16 ?_|refine z17 ?_|refine z18 ?_|refine z19 ?_|refine z20 ?_|refine z21 ?_|refine z22 ?_|refine z23 ?_|refine z24 ?_) | (((with_reducible first|refine z25 ?_|refine z26 ?_);intro K hK;(conv=>whnf))) | (with_reducible first|(refine hK _ _ ?_;clear hK K)|(refine hA ?_;clear hA hB A B)|(refine hB ?_;clear hA hB A B)|(refine hK _ ?_;clear hK K)) | ((with_reducible refine z29 ?_);intro A B hA hB;(conv=>whnf)) | (refine z30 (by decide) ?_) | ((first|refine z31 rfl ?_|refine z32 rfl ?_|refine z33 rfl ?_);intro K hK;(conv=>whnf)) | (((with_reducible first|refine NIf.yes ?s ?_);case s=>(simp ;done))<;>(conv=>whnf)) | (((with_reducible first|refine NIf.no ?s ?_);case s=>(simp ;done))<;>(conv=>whnf)) | ((with_reducible refine NCall.isF 64 ?_); (refine NCall.pure (r1) ?_; rintro _ _ rfl; refine ⟨_, rfl, ?_⟩; (conv=>whnf))) | ((with_reducible refine NCall.isF 70 ?_); (refine NCall.subw [0] _ _ (x1) rfl (by decide) rfl ?_; rintro _ _ ⟨rfl, rfl⟩; refine ⟨Nat.le_of_ble_eq_true rfl, _, rfl, ?_⟩; (conv=>whnf))) | ((with_reducible refine NCall.isF 75 ?_); (refine NCall.subw [0] _ _ (p1) rfl (by decide) rfl ?_; rintro _ _ ⟨rfl, rfl⟩; refine ⟨Nat.le_of_ble_eq_true rfl, _, rfl, ?_⟩; (conv=>whnf))) | ((with_reducible refine NCall.isF 68 ?_); (refine NCall.pure (c1) ?_; rintro _ _ rfl; refine ⟨_, rfl, ?_⟩; (conv=>whnf))) | ((with_reducible refine NCall.isF 51 ?_); (refine NCall.subw [] _ _ (ropen_c cc) rfl (by decide) rfl ?_; rintro _ _ ⟨a1, rfl, rfl⟩; refine ⟨Nat.le_of_ble_eq_true rfl, .ptr 3 a1 0, rfl, ?_⟩; (conv=>whnf))) | ((with_reducible refine NCall.isF 73 ?_); (refine NCall.subw [3] _ _ (rd _) rfl (by decide) rfl ?_; rintro _ _ ⟨rfl, rfl⟩; refine ⟨Nat.le_of_ble_eq_true rfl, _, rfl, ?_⟩; (conv=>whnf))) | ((with_reducible refine NCall.isF 56 ?_); (refine NCall.subw [3] _ _ (e5 _) rfl (by decide) rfl ?_; rintro _ _ ⟨rfl, rfl⟩; refine ⟨Nat.le_of_ble_eq_true rfl, _, rfl, ?_⟩; (conv=>whnf))) | (((with_reducible first|refine NV.quo ?s ?_|refine NV.rem ?s ?_|refine NV.i64 ?s ?_|refine NV.u32 ?s ?_|refine NV.u8 ?s ?_|refine NV.u64 ?s ?_);case s=>omega)<;>(conv=>whnf)) | ((with_reducible first|refine NV.divk ?_|refine NV.modk ?_|refine NN.lit ?_|refine NN.cast ?_|refine NN.a1 ?_|refine NN.a2 ?_|refine NN.a3 ?_|refine NN.a4 ?_|refine NN.a5 ?_|refine NN.a6 ?_|refine NV.keep ?_|refine NN.keep ?_|refine NS.keep ?_|refine NIf.not_ ?_)<;>(conv=>whnf)) | (((with_reducible refine NH.mk ?s ?_);case s=>(and_intros <;> first | with_reducible rfl | omega | assumption | exact Nat.le_of_ble_eq_true rfl | (simp only [List.length_append, List.length_cons, List.length_nil]; omega) | rfl))<;>(conv=>whnf)) | (((with_reducible refine NIf.decY ?s ?_);case s=>first|with_reducible rfl|assumption|omega)<;>(conv=>whnf)) | (((with_reducible refine NIf.decN ?s ?_);case s=>first|with_reducible rfl|assumption|omega)<;>(conv=>whnf)) | (((with_reducible refine NIf.yes ?s ?_);case s=>first|rfl|assumption)<;>(conv=>whnf)) | (((with_reducible refine NIf.no ?s ?_);case s=>first|rfl|assumption)<;>(conv=>whnf)) | (((with_reducible refine NLd.of (by with_reducible assumption) ?_))<;>(conv=>whnf)) | ((refine NFlat_iff.2 ⟨⟨?s1,?s2⟩,?_⟩;(case s1=>decide +kernel);(case s2=>decide +kernel))<;>(conv=>whnf)) | ((with_reducible first|refine NIf.dec (fun _=>?_) (fun _=>?_)|refine NIf.both (fun _=>?_) (fun _=>?_))<;>(conv=>whnf)) | ((intro _;skip)<;>(conv=>whnf))))
  all_goals (repeat' (first | (with_reducible first|refine z0 ?_|refine z1 ?_|refine z2 ?_|refine z3 ?_|refine z4 ?_|refine z5 ?_|refine z6 ?_|refine z7 ?_|refine z8 ?_|refine z9 ?_|refine z10 ?_|refine z11 ?_|refine z12 ?_|refine z13 ?_|refine z14 ?_|refine z15 ?_|refine z16 ?_|refine z17 ?_|refine z18 ?_|refine z19 ?_|refine z20 ?_|refine z21 ?_|refine z22 ?_|refine z23 ?_|refine z24 ?_) | (((with_reducible first|refine z25 ?_|refine z26 ?_|refine z27 ?_|refine z28 ?_);intro K hK;(conv=>whnf))) | (with_reducible first|(refine hK _ _ ?_;clear hK K)|(refine hA ?_;clear hA hB A B)|(refine hB ?_;clear hA hB A B)|(refine hK _ ?_;clear hK K)) | ((with_reducible refine z29 ?_);intro A B hA hB;(conv=>whnf)) | (refine z30 (by decide) ?_) | ((first|refine z31 rfl ?_|refine z32 rfl ?_|refine z33 rfl ?_);intro K hK;(conv=>whnf)) | (refine z34 (by kernel_rfl) (by kernel_rfl) ?_) | (((with_reducible first|refine NIf.yes ?s ?_);case s=>(simp ;done))<;>(conv=>whnf)) | (((with_reducible first|refine NIf.no ?s ?_);case s=>(simp ;done))<;>(conv=>whnf)) | ((with_reducible refine NCall.isF 65 ?_); (refine NCall.pure (w1) ?_; rintro _ _ rfl; refine ⟨_, rfl, ?_⟩; (conv=>whnf))) | ((with_reducible refine NCallQ.isF 64 ?_); (refine NCallQ.pureEq (r2) ?_; (conv=>whnf))) | ((with_reducible refine NCallQ.isF 67 ?_); (refine NCallQ.pureEq (g3) ?_; (conv=>whnf))) | ((with_reducible refine NCallQ.isF 67 ?_); (refine NCallQ.pureEq (g1) ?_; (conv=>whnf))) | ((with_reducible refine NCallQ.isF 67 ?_); (refine NCallQ.pureEq (g2) ?_; (conv=>whnf))) | ((with_reducible refine NCall.isF 62 ?_); (refine NCall.pure (t1) ?_; rintro _ _ rfl; refine ⟨_, rfl, ?_⟩; (conv=>whnf))) | ((with_reducible refine NCallQ.isF 65 ?_); (refine NCallQ.pureEq (w2) ?_; (conv=>whnf))) | ((with_reducible refine NCallQ.isF 72 ?_); (refine NCallQ.subEq [0] _ _ (aw) rfl (by decide) rfl rfl ?_; (conv=>whnf))) | (((with_reducible first|refine NV.quo ?s ?_|refine NV.rem ?s ?_|refine NV.i64 ?s ?_|refine NV.u32 ?s ?_|refine NV.u8 ?s ?_|refine NV.u64 ?s ?_);case s=>omega)<;>(conv=>whnf)) | ((with_reducible first|refine NV.divk ?_|refine NV.modk ?_|refine NN.lit ?_|refine NN.cast ?_|refine NN.a1 ?_|refine NN.a2 ?_|refine NN.a3 ?_|refine NN.a4 ?_|refine NN.a5 ?_|refine NN.a6 ?_|refine NV.keep ?_|refine NN.keep ?_|refine NS.keep ?_|refine NIf.not_ ?_)<;>(conv=>whnf)) | (((with_reducible refine NH.mk ?s ?_);case s=>(and_intros <;> first | with_reducible rfl | omega | assumption | exact Nat.le_of_ble_eq_true rfl | (simp only [List.length_append, List.length_cons, List.length_nil]; omega) | rfl))<;>(conv=>whnf)) | (((with_reducible refine NIf.decY ?s ?_);case s=>first|with_reducible rfl|assumption|omega)<;>(conv=>whnf)) | (((with_reducible refine NIf.decN ?s ?_);case s=>first|with_reducible rfl|assumption|omega)<;>(conv=>whnf)) | (((with_reducible refine NIf.yes ?s ?_);case s=>first|rfl|assumption)<;>(conv=>whnf)) | (((with_reducible refine NIf.no ?s ?_);case s=>first|rfl|assumption)<;>(conv=>whnf)) | (((with_reducible refine NLd.of (by with_reducible assumption) ?_))<;>(conv=>whnf)) | ((refine NFlat_iff.2 ⟨⟨?s1,?s2⟩,?_⟩;(case s1=>decide +kernel);(case s2=>decide +kernel))<;>(conv=>whnf)) | ((with_reducible first|refine NIf.dec (fun _=>?_) (fun _=>?_)|refine NIf.both (fun _=>?_) (fun _=>?_))<;>(conv=>whnf)) | ((intro _;skip)<;>(conv=>whnf))))
  all_goals first | rfl | (exfalso; omega)
theorem back_1_o (F : Heap) (hF : TabF F) (hE : ErrF F) (p : Ac.P4) (hp : Pk.in64 p) (ho : Pk.okP p) (f v g : Int) (hfk : f = 1) (hv : Ac.valid f v) (hgf : ¬ g = f) : NCall Tryd.prog 13 [.agg p.av, .int .i64 f, .int .i64 v, .int .i64 g] [hpB F] fun r _ => r = .bool true := by
  have r1 := right7_c p
  have c1 := code7_c p hp
  have aw := awake7_c F hF hE
  rw [decide_eq_true ho] at r1
  have x1 := text7_c F hF p hp
  have hpt := Pk.parse_text ho
  have p1 := parse7_k F hF hE (Pk.text p) (Pk.text_len hp)
  rw [hpt] at p1
  simp only [Option.getD_some, Option.isSome_some, if_true] at p1
  obtain ⟨k1, k2, k3⟩ := Pk.read_back ho
  have hr0 : (⟨Pk.code p, 0, 0⟩ : Oct.R).ok := ⟨Nat.zero_le _, by dsimp only; omega, by dsimp only; omega, by dsimp only; omega⟩
  have rd : ∀ a, _ := fun a => read7_c a ⟨Pk.code p, 0, 0⟩ hr0
  have hr3 := Pk.rdR_ok hr0
  rw [k1, k2] at rd
  rw [k2] at hr3
  have e5 : ∀ a', _ := fun a' => rfin_c a' _ hr3
  have k4 : (⟨Pk.code p, 4, 0⟩ : Oct.R).fin = ⟨Pk.code p, 4, 0⟩ := by
    unfold Oct.R.fin Oct.R.left
    rw [if_pos rfl, if_neg (by dsimp only; omega)]
  rw [k4] at e5
  dsimp only at e5
  have w1 := with7_c p f v
  have t1 := topA_c f
  have g2 := get7_c p g
  generalize (⟨Pk.code p, 4, 0⟩ : Oct.R) = R9 at *
  generalize Pk.code p = cc at *
  generalize Pk.text p = tx at *
  have r2 := right7_c (Ac.withF p f v)
  rw [decide_eq_true (Pk.with_ok ho f v)] at r2
  have g1 := get7_c (Ac.withF p f v) g
  have g3 := get7_c (Ac.withF p f v) f
  have w2 := with7_c (Ac.withF p f v) f (p.get f)
  rw [Pk.get_same hv] at g3
  rw [Pk.with_back ho hv] at w2
  rw [Pk.get_other hgf] at g1
  clear k1 k2 hpt
  generalize Ac.withF p f v = W at *
  generalize Pk.get p g = gp at *
  obtain ⟨v0, v1, v2, v3⟩ := hv
  generalize Mt.top f = tp at *
  subst hfk
  obtain ⟨pa, pb, pc, pd⟩ := p
  obtain ⟨wa, wb, wc, wd⟩ := W
  refine ncall_of Tryd.func13 rfl (by decide) ?_
  simp only [Ac.P4.av, Ac.P4.get] at *
  (repeat' (first | (refine z35 (by kernel_rfl) _ rfl ?_) | (refine z36 rfl (by kernel_rfl) ?_; intro K hK; (conv=>whnf)) | (refine z37 rfl (by kernel_rfl) ?_; intro K hK; (conv=>whnf)) | (refine z38 rfl (by kernel_rfl) ?_) | (refine z39 rfl rfl (by kernel_rfl) (by intro h; cases h) ?_) | (refine z40 ?_ ?_; (intro K hK; (conv=>whnf))) | (refine z41 ?_ ?_; (intro K hK; (conv=>whnf))) | exact z42 | (with_reducible first|refine z0 ?_|refine z1 ?_|refine z2 ?_|refine z3 ?_|refine z4 ?_|refine z5 ?_|refine z6 ?_|refine z7 ?_|refine z8 ?_|refine z9 ?_|refine z10 ?_|refine z11 ?_|refine z12 ?_|refine z13 ?_|refine z14 ?_|refine z15 ?_|refine z16 ?_|refine z17 ?_|refine z18 ?_|refine z19 ?_|refine z20 ?_|refine z21 ?_|refine z22 ?_|refine z23 ?_|refine z24 ?_) | (((with_reducible first|refine z25 ?_|refine z26 ?_);intro K hK;(conv=>whnf))) | (with_reducible first|(refine hK _ _ ?_;clear hK K)|(refine hA ?_;clear hA hB A B)|(refine hB ?_;clear hA hB A B)|(refine hK _ ?_;clear hK K)) | ((with_reducible refine z29 ?_);intro A B hA hB;(conv=>whnf)) | (refine z30 (by decide) ?_) | ((first|refine z31 rfl ?_|refine z32 rfl ?_|refine z33 rfl ?_);intro K hK;(conv=>whnf)) | (((with_reducible first|refine NIf.yes ?s ?_);case s=>(simp ;done))<;>(conv=>whnf)) | (((with_reducible first|refine NIf.no ?s ?_);case s=>(simp ;done))<;>(conv=>whnf)) | ((with_reducible refine NCall.isF 64 ?_); (refine NCall.pure (r1) ?_; rintro _ _ rfl; refine ⟨_, rfl, ?_⟩; (conv=>whnf))) | ((with_reducible refine NCall.isF 70 ?_); (refine NCall.subw [0] _ _ (x1) rfl (by decide) rfl ?_; rintro _ _ ⟨rfl, rfl⟩; refine ⟨Nat.le_of_ble_eq_true rfl, _, rfl, ?_⟩; (conv=>whnf))) | ((with_reducible refine NCall.isF 75 ?_); (refine NCall.subw [0] _ _ (p1) rfl (by decide) rfl ?_; rintro _ _ ⟨rfl, rfl⟩; refine ⟨Nat.le_of_ble_eq_true rfl, _, rfl, ?_⟩; (conv=>whnf))) | ((with_reducible refine NCall.isF 68 ?_); (refine NCall.pure (c1) ?_; rintro _ _ rfl; refine ⟨_, rfl, ?_⟩; (conv=>whnf))) | ((with_reducible refine NCall.isF 51 ?_); (refine NCall.subw [] _ _ (ropen_c cc) rfl (by decide) rfl ?_; rintro _ _ ⟨a1, rfl, rfl⟩; refine ⟨Nat.le_of_ble_eq_true rfl, .ptr 3 a1 0, rfl, ?_⟩; (conv=>whnf))) | ((with_reducible refine NCall.isF 73 ?_); (refine NCall.subw [3] _ _ (rd _) rfl (by decide) rfl ?_; rintro _ _ ⟨rfl, rfl⟩; refine ⟨Nat.le_of_ble_eq_true rfl, _, rfl, ?_⟩; (conv=>whnf))) | ((with_reducible refine NCall.isF 56 ?_); (refine NCall.subw [3] _ _ (e5 _) rfl (by decide) rfl ?_; rintro _ _ ⟨rfl, rfl⟩; refine ⟨Nat.le_of_ble_eq_true rfl, _, rfl, ?_⟩; (conv=>whnf))) | (((with_reducible first|refine NV.quo ?s ?_|refine NV.rem ?s ?_|refine NV.i64 ?s ?_|refine NV.u32 ?s ?_|refine NV.u8 ?s ?_|refine NV.u64 ?s ?_);case s=>omega)<;>(conv=>whnf)) | ((with_reducible first|refine NV.divk ?_|refine NV.modk ?_|refine NN.lit ?_|refine NN.cast ?_|refine NN.a1 ?_|refine NN.a2 ?_|refine NN.a3 ?_|refine NN.a4 ?_|refine NN.a5 ?_|refine NN.a6 ?_|refine NV.keep ?_|refine NN.keep ?_|refine NS.keep ?_|refine NIf.not_ ?_)<;>(conv=>whnf)) | (((with_reducible refine NH.mk ?s ?_);case s=>(and_intros <;> first | with_reducible rfl | omega | assumption | exact Nat.le_of_ble_eq_true rfl | (simp only [List.length_append, List.length_cons, List.length_nil]; omega) | rfl))<;>(conv=>whnf)) | (((with_reducible refine NIf.decY ?s ?_);case s=>first|with_reducible rfl|assumption|omega)<;>(conv=>whnf)) | (((with_reducible refine NIf.decN ?s ?_);case s=>first|with_reducible rfl|assumption|omega)<;>(conv=>whnf)) | (((with_reducible refine NIf.yes ?s ?_);case s=>first|rfl|assumption)<;>(conv=>whnf)) | (((with_reducible refine NIf.no ?s ?_);case s=>first|rfl|assumption)<;>(conv=>whnf)) | (((with_reducible refine NLd.of (by with_reducible assumption) ?_))<;>(conv=>whnf)) | ((refine NFlat_iff.2 ⟨⟨?s1,?s2⟩,?_⟩;(case s1=>decide +kernel);(case s2=>decide +kernel))<;>(conv=>whnf)) | ((with_reducible first|refine NIf.dec (fun _=>?_) (fun _=>?_)|refine NIf.both (fun _=>?_) (fun _=>?_))<;>(conv=>whnf)) | ((intro _;skip)<;>(conv=>whnf))))
  all_goals (repeat' (first | (with_reducible first|refine z0 ?_|refine z1 ?_|refine z2 ?_|refine z3 ?_|refine z4 ?_|refine z5 ?_|refine z6 ?_|refine z7 ?_|refine z8 ?_|refine z9 ?_|refine z10 ?_|refine z11 ?_|refine z12 ?_|refine z13 ?_|refine z14 ?_|refine z15 ?_|refine z16 ?_|refine z17 ?_|refine z18 ?_|refine z19 ?_|refine z20 ?_|refine z21 ?_|refine z22 ?_|refine z23 ?_|refine z24 ?_) | (((with_reducible first|refine z25 ?_|refine z26 ?_|refine z27 ?_|refine z28 ?_);intro K hK;(conv=>whnf))) | (with_reducible first|(refine hK _ _ ?_;clear hK K)|(refine hA ?_;clear hA hB A B)|(refine hB ?_;clear hA hB A B)|(refine hK _ ?_;clear hK K)) | ((with_reducible refine z29 ?_);intro A B hA hB;(conv=>whnf)) | (refine z30 (by decide) ?_) | ((first|refine z31 rfl ?_|refine z32 rfl ?_|refine z33 rfl ?_);intro K hK;(conv=>whnf)) | (refine z34 (by kernel_rfl) (by kernel_rfl) ?_) | (((with_reducible first|refine NIf.yes ?s ?_);case s=>(simp ;done))<;>(conv=>whnf)) | (((with_reducible first|refine NIf.no ?s ?_);case s=>(simp ;done))<;>(conv=>whnf)) | ((with_reducible refine NCall.isF 65 ?_); (refine NCall.pure (w1) ?_; rintro _ _ rfl; refine ⟨_, rfl, ?_⟩; (conv=>whnf))) | ((with_reducible refine NCallQ.isF 64 ?_); (refine NCallQ.pureEq (r2) ?_; (conv=>whnf))) | ((with_reducible refine NCallQ.isF 67 ?_); (refine NCallQ.pureEq (g3) ?_; (conv=>whnf))) | ((with_reducible refine NCallQ.isF 67 ?_); (refine NCallQ.pureEq (g1) ?_; (conv=>whnf))) | ((with_reducible refine NCallQ.isF 67 ?_); (refine NCallQ.pureEq (g2) ?_; (conv=>whnf))) | ((with_reducible refine NCall.isF 62 ?_); (refine NCall.pure (t1) ?_; rintro _ _ rfl; refine ⟨_, rfl, ?_⟩; (conv=>whnf))) | ((with_reducible refine NCallQ.isF 65 ?_); (refine NCallQ.pureEq (w2) ?_; (conv=>whnf))) | ((with_reducible refine NCallQ.isF 72 ?_); (refine NCallQ.subEq [0] _ _ (aw) rfl (by decide) rfl rfl ?_; (conv=>whnf))) | (((with_reducible first|refine NV.quo ?s ?_|refine NV.rem ?s ?_|refine NV.i64 ?s ?_|refine NV.u32 ?s ?_|refine NV.u8 ?s ?_|refine NV.u64 ?s ?_);case s=>omega)<;>(conv=>whnf)) | ((with_reducible first|refine NV.divk ?_|refine NV.modk ?_|refine NN.lit ?_|refine NN.cast ?_|refine NN.a1 ?_|refine NN.a2 ?_|refine NN.a3 ?_|refine NN.a4 ?_|refine NN.a5 ?_|refine NN.a6 ?_|refine NV.keep ?_|refine NN.keep ?_|refine NS.keep ?_|refine NIf.not_ ?_)<;>(conv=>whnf)) | (((with_reducible refine NH.mk ?s ?_);case s=>(and_intros <;> first | with_reducible rfl | omega | assumption | exact Nat.le_of_ble_eq_true rfl | (simp only [List.length_append, List.length_cons, List.length_nil]; omega) | rfl))<;>(conv=>whnf)) | (((with_reducible refine NIf.decY ?s ?_);case s=>first|with_reducible rfl|assumption|omega)<;>(conv=>whnf)) | (((with_reducible refine NIf.decN ?s ?_);case s=>first|with_reducible rfl|assumption|omega)<;>(conv=>whnf)) | (((with_reducible refine NIf.yes ?s ?_);case s=>first|rfl|assumption)<;>(conv=>whnf)) | (((with_reducible refine NIf.no ?s ?_);case s=>first|rfl|assumption)<;>(conv=>whnf)) | (((with_reducible refine NLd.of (by with_reducible assumption) ?_))<;>(conv=>whnf)) | ((refine NFlat_iff.2 ⟨⟨?s1,?s2⟩,?_⟩;(case s1=>decide +kernel);(case s2=>decide +kernel))<;>(conv=>whnf)) | ((with_reducible first|refine NIf.dec (fun _=>?_) (fun _=>?_)|refine NIf.both (fun _=>?_) (fun _=>?_))<;>(conv=>whnf)) | ((intro _;skip)<;>(conv=>whnf))))
  all_goals first | rfl | (exfalso; omega)
end Go.Proofs.YtokbckflleaplaaDoor
