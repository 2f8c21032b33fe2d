/-
  Conditions: the laws, walked.
-/
import Derived.Test.YtfolnkbkojjcbaaDoorPd20
import Derived.Test.YtfolnkbkojjcbaaDoorPd18
import Derived.Test.YtfolnkbkojjcbaaDoorPd14
import Derived.Test.YtfolnkbkojjcbaaDoorPd10
namespace Go.Proofs.YtfolnkbkojjcbaaDoor
open Go.Sx
set_option maxRecDepth 20000
set_option linter.unusedSimpArgs false
set_option linter.unusedVariables false
set_option maxHeartbeats 4000000
set_option linter.unusedVariables false
theorem awake26_k (F : Heap) (hT : TabF F) : NCall Tryd.prog 8 [] [hpB F] fun r m => r = .bool true ∧ m = [hpB F] :=
  (awake26_c F hT).fits fun r m ⟨h1, F', h2, h3⟩ => ⟨r, _, rfl, h3 ▸ MemFits.less h2 [], h1, rfl⟩
theorem papart_c (F : Heap) (hT : TabF F) (x y : Pd.At) (p : Pd.T) (u : Value) (hs : Pd.size p ≤ 2932031007402) (hu : Pd.Row F u p.l) :
    NCall Tryd.prog 3 [.agg (Pd.cs p u), .int .i64 x.sw, .int .i64 x.port, .agg x.pk, .int .i64 y.sw, .int .i64 y.port, .agg y.pk] [hpB F] fun r _ => r = .bool true := by
  have cm := mine26_c _ F p u (Nat.le_refl _) hs hu
  have cs := fun G (h : F.le G) => small26_c G p u (by omega) (Pd.Row.mono h hu)
  have ca := fun G u' (h : Pd.Row G u' p.l) => alike26_c G x y p u' hs h
  have ch := fun G u' (h : Pd.Row G u' p.l) => Hits26_c G x p u' (by omega) h
  have ch2 := fun G u' (h : Pd.Row G u' p.l) => Hits26_c G y p u' (by omega) h
  have cw := fun G (h : F.le G) => awake26_k G (hT.mono h)
  have hal : (∀ f : Int, 0 ≤ f ∧ f ≤ 5 → Pd.Alike x y f (Pd.values f p)) → Pd.hits x p = Pd.hits y p := fun h => Pd.hits_alike x y p fun f hf v hv => h f hf v ((Pd.values_mem f p v).2 hv)
  have hok := hu.ok
  generalize hA : (∀ f : Int, 0 ≤ f ∧ f ≤ 5 → Pd.Alike x y f (Pd.values f p)) = A at *
  generalize Pd.hits x p = b1 at *
  generalize Pd.hits y p = b2 at *
  generalize decide (Pd.size p ≤ 100) = bs at *
  have hmono : ∀ G G' u', G.le G' → Pd.Row G u' p.l → Pd.Row G' u' p.l := fun G G' u' h h2 => Pd.Row.mono h h2
  clear hA hs hu
  obtain ⟨k, f, v, l⟩ := p
  obtain ⟨sw, port, p0, p1, p2, p3⟩ := x
  obtain ⟨sw', port', q0, q1, q2, q3⟩ := y
  simp only [pd_cs, Pd.Lays, Pd.T.l, Pd.At.pk] at *
  refine ncall_of Tryd.func3 rfl (by decide) ?_
  (repeat' (first|(with_reducible first|(refine hK _ _ ?_;clear hK K)|(refine hA ?_;clear hA hB A B)|(refine hB ?_;clear hA hB A B)|(refine hK _ ?_;clear hK K))|((with_reducible refine gO ?_);(first|((with_reducible first|refine z25 ?_|refine z26 ?_);intro K hK;(conv=>whnf))|(with_reducible first|refine z0 ?_)))|((first|((with_reducible refine gV ?_);(first|((with_reducible first|refine NV.quo ?s ?_|refine NV.rem ?s ?_|refine NV.i64 ?s ?_|refine NV.u32 ?s ?_|refine NV.u8 ?s ?_|refine NV.u64 ?s ?_);case s=>omega)|(with_reducible first|refine NV.divk ?_|refine NV.modk ?_|refine NV.keep ?_)))|((with_reducible refine gI ?_);(first|with_reducible refine NIf.not_ ?_|((with_reducible refine NIf.decY ?s ?_);case s=>first|with_reducible rfl|assumption|omega)|((with_reducible refine NIf.decN ?s ?_);case s=>first|with_reducible rfl|assumption|omega)|((with_reducible refine NIf.yes ?s ?_);case s=>first|rfl|assumption)|((with_reducible refine NIf.no ?s ?_);case s=>first|rfl|assumption)|(with_reducible first|refine NIf.dec (fun _=>?_) (fun _=>?_)|refine NIf.both (fun _=>?_) (fun _=>?_))))|((with_reducible refine gN ?_);(with_reducible first|refine NN.lit ?_|refine NN.cast ?_|refine NN.a1 ?_|refine NN.a2 ?_|refine NN.a3 ?_|refine NN.a4 ?_|refine NN.a5 ?_|refine NN.a6 ?_|refine NN.keep ?_))|((with_reducible refine gH ?_);((with_reducible refine NH.mk ?s ?_);case s=>(and_intros<;>first|with_reducible rfl|((with_reducible refine gOnes ?_);rfl)|((with_reducible refine gLen ?_);rfl)|((with_reducible refine gKept ?_);exact rfl)|omega|assumption|exact Nat.le_of_ble_eq_true rfl|(simp only [List.length_append, List.length_cons, List.length_nil]; omega)|rfl)))|((with_reducible refine gC ?_);(first|((with_reducible refine NCall.isF 5 ?_);refine NCall.subw [0] _ _ (cm) rfl (by decide) rfl ?_; rintro _ _ ⟨F1, u1, hle1, hu1, rfl, rfl⟩; refine ⟨Nat.le_of_ble_eq_true rfl, _, rfl, ?_⟩)|((with_reducible refine NCall.isF 6 ?_);refine NCall.subE [0] (cs F1 hle1) rfl (by decide) rfl rfl ?_)|((with_reducible refine NCall.isF 7 ?_);refine NCall.subw [0] _ _ (ca F1 u1 hu1) rfl (by decide) rfl ?_; rintro _ _ ⟨b, F2, rfl, hb, hle2, rfl⟩; refine ⟨Nat.le_of_ble_eq_true rfl, _, rfl, ?_⟩)|((with_reducible refine NCall.isF 8 ?_);refine NCall.subE [0] (cw F1 hle1) rfl (by decide) rfl rfl ?_)|((with_reducible refine NCall.isF 9 ?_);refine NCall.subE [0] (ch F2 u1 (hmono _ _ _ hle2 hu1)) rfl (by decide) rfl rfl ?_)|((with_reducible refine NCall.isF 9 ?_);refine NCall.subE [0] (ch2 F2 u1 (hmono _ _ _ hle2 hu1)) rfl (by decide) rfl rfl ?_)|((with_reducible refine NCall.isF 8 ?_);refine NCall.subE [0] (cw F2 (hle1.trans hle2)) rfl (by decide) rfl rfl ?_)))|(with_reducible refine NS.keep ?_)|(with_reducible refine NLd.of (by with_reducible assumption) ?_))<;>(conv=>whnf))|((with_reducible refine gNRK ?_);(first|((with_reducible refine st_ordS1 ?s1 ?s2 ?s3 ?_); (case s1 => kernel_rfl); (case s2 => kernel_rfl); (case s3 => exact rfl); intro K hK; (conv=>whnf))|((with_reducible refine st_ordS1g ?s1 ?s2 ?s3 ?_); (case s1 => kernel_rfl); (case s2 => kernel_rfl); (case s3 => exact rfl); intro K hK; (conv=>whnf))|((with_reducible refine st_ordS2 ?s2 ?_); (case s2 => kernel_rfl); intro K hK; (conv=>whnf))|((with_reducible refine st_ordS2g ?s2 ?s3 ?_); (case s2 => kernel_rfl); (case s3 => exact rfl); intro K hK; (conv=>whnf))|((with_reducible refine st_ordS0 ?s2 ?_); (case s2 => kernel_rfl))|(with_reducible refine st_ordSout ?_)))|((with_reducible refine gNOK ?_);(first|(refine st_ordK1 rfl (by kernel_rfl) rfl ?_; intro K hK; (conv=>whnf))|(refine st_ordK1g rfl (by kernel_rfl) rfl ?_; intro K hK; (conv=>whnf))|(refine st_ordK0 rfl (by kernel_rfl) ?_)|(refine st_ordKA rfl rfl (by kernel_rfl) (by intro h; cases h) ?_)))|((with_reducible refine gNEK ?_);(first|(refine st_eachK ?_ ?_; (intro K hK; (conv=>whnf)))|(refine st_eachKg rfl ?_ ?_; (intro K hK; (conv=>whnf)))|exact st_eachK0))|((with_reducible refine gX ?_);(first|(refine st_orderS [] rfl rfl (by kernel_rfl) _ rfl ?_)|(with_reducible first|refine z3 ?_|refine z4 ?_|refine z5 ?_|refine z6 ?_|refine z7 ?_|refine z8 ?_|refine z14 ?_|refine z15 ?_)|((with_reducible refine z29 ?_);intro A B hA hB;(conv=>whnf))))|(with_reducible first|refine z1 ?_|refine z2 ?_|refine z9 ?_|refine z10 ?_|refine z11 ?_|refine z12 ?_|refine z13 ?_|refine z16 ?_|refine z17 ?_|refine z18 ?_|refine z19 ?_|refine z20 ?_|refine z21 ?_|refine z22 ?_|refine z23 ?_)|((with_reducible refine gB ?_);(refine z30 (by decide) ?_))|((with_reducible refine gR ?_);((first|refine z31 rfl ?_|refine z32 rfl ?_);intro K hK;(conv=>whnf)))|((with_reducible refine gF ?_);((refine z33 rfl ?_);intro K hK;(conv=>whnf)))|((refine NFlat_iff.2 ⟨⟨?s1,?s2⟩,?_⟩;(case s1=>decide +kernel);(case s2=>decide +kernel))<;>(conv=>whnf))|((intro _;skip)<;>(conv=>whnf))))
  all_goals first
    | rfl
    | (exfalso
       have h9 := hal (hb (by assumption))
       subst h9
       simp_all)
namespace Pd
mutual
theorem push_size : ∀ (p : T) (nt : Bool), size (push p nt) ≤ 2 * size p
  | .mk k f v l, nt => by
    have h1 := push1_size (.mk k f v l) l (!nt)
    have hL := pushL_size l nt
    have e := size_mk k f v l
    rw [push]
    split
    · omega
    split
    · split
      · rw [size_mk, sizeL]; omega
      · omega
    split
    · rw [size_mk]; omega
    split
    · rw [size_mk, sizeL, sizeL]; omega
    · omega
theorem push1_size : ∀ (d : T) (l : List T) (nt : Bool), size (push1 d l nt) ≤ max (size d) (2 * sizeL l)
  | d, [], nt => by rw [push1]; omega
  | d, p :: l, nt => by have := push_size p nt; rw [push1, sizeL]; omega
theorem pushL_size : ∀ (l : List T) (nt : Bool), sizeL (pushL l nt) ≤ 2 * sizeL l
  | [], nt => by simp [pushL, sizeL]
  | p :: l, nt => by have := push_size p nt; have := pushL_size l nt; rw [pushL, sizeL, sizeL]; omega
end
theorem right_fits {p : T} (h : right p = true) : fits p = true ∧ size p ≤ 64 := by
  unfold right at h
  simp only [Bool.and_eq_true, decide_eq_true_eq] at h
  exact ⟨h.1, h.2.1⟩
end Pd
theorem ptells_c (F : Heap) (hT : TabF F) (x : Pd.At) (f : Int) (hf : -9223372036854775808 ≤ f ∧ f ≤ 9223372036854775807) (p q : Pd.T) (u w : Value) (hs : Pd.size p ≤ 2932031007402) (hs2 : Pd.size q ≤ 2932031007402) (hu : Pd.Row F u p.l) (hw : Pd.Row F w q.l) :
    NCall Tryd.prog 4 [.agg (Pd.cs p u), .agg (Pd.cs q w), .int .i64 x.sw, .int .i64 x.port, .agg x.pk, .int .i64 f] [hpB F] fun r _ => r = .bool true := by
  have hok := hu.ok
  have hok2 := hw.ok
  have s1 := small26_c F p u (by omega) hu
  have s2 := small26_c F q w (by omega) hw
  have cw := fun G (h : F.le G) => awake26_k G (hT.mono h)
  by_cases hsm : Pd.size p ≤ 100 ∧ Pd.size q ≤ 100
  rotate_left
  · have : Pd.size p ≤ 100 → ¬ Pd.size q ≤ 100 := fun h h2 => hsm ⟨h, h2⟩
    generalize Pd.size p = n1 at *
    generalize Pd.size q = n2 at *
    clear hu hw
    have cw := cw F F.le_refl
    obtain ⟨k, a, v, l⟩ := p
    obtain ⟨k', a', v', l'⟩ := q
    obtain ⟨sw, port, p0, p1, p2, p3⟩ := x
    simp only [pd_cs, Pd.T.l, Pd.At.pk] at *
    refine ncall_of Tryd.func4 rfl (by decide) ?_
    (repeat' (first|(with_reducible first|(refine hK _ _ ?_;clear hK K)|(refine hA ?_;clear hA hB A B)|(refine hB ?_;clear hA hB A B)|(refine hK _ ?_;clear hK K))|((with_reducible refine gO ?_);(first|((with_reducible first|refine z25 ?_|refine z26 ?_);intro K hK;(conv=>whnf))|(with_reducible first|refine z0 ?_)))|((with_reducible refine gP ?_);(first|((with_reducible first|refine z27 ?_|refine z28 ?_);intro K hK;(conv=>whnf))|(with_reducible first|refine z24 ?_)))|((first|((with_reducible refine gV ?_);(first|((with_reducible first|refine NV.quo ?s ?_|refine NV.rem ?s ?_|refine NV.i64 ?s ?_|refine NV.u32 ?s ?_|refine NV.u8 ?s ?_|refine NV.u64 ?s ?_);case s=>omega)|(with_reducible first|refine NV.divk ?_|refine NV.modk ?_|refine NV.keep ?_)))|((with_reducible refine gI ?_);(first|with_reducible refine NIf.not_ ?_|((with_reducible refine NIf.decY ?s ?_);case s=>first|with_reducible rfl|assumption|omega)|((with_reducible refine NIf.decN ?s ?_);case s=>first|with_reducible rfl|assumption|omega)|((with_reducible refine NIf.yes ?s ?_);case s=>first|rfl|assumption)|((with_reducible refine NIf.no ?s ?_);case s=>first|rfl|assumption)|(with_reducible first|refine NIf.dec (fun _=>?_) (fun _=>?_)|refine NIf.both (fun _=>?_) (fun _=>?_))))|((with_reducible refine gN ?_);(with_reducible first|refine NN.lit ?_|refine NN.cast ?_|refine NN.a1 ?_|refine NN.a2 ?_|refine NN.a3 ?_|refine NN.a4 ?_|refine NN.a5 ?_|refine NN.a6 ?_|refine NN.keep ?_))|((with_reducible refine gH ?_);((with_reducible refine NH.mk ?s ?_);case s=>(and_intros<;>first|with_reducible rfl|((with_reducible refine gOnes ?_);rfl)|((with_reducible refine gLen ?_);rfl)|omega|assumption|exact Nat.le_of_ble_eq_true rfl|(simp only [List.length_append, List.length_cons, List.length_nil]; omega)|rfl)))|((with_reducible refine gC ?_);(first|((with_reducible refine NCall.isF 6 ?_);refine NCall.subE [0] (s1) rfl (by decide) rfl rfl ?_)|((with_reducible refine NCall.isF 6 ?_);refine NCall.subE [0] (s2) rfl (by decide) rfl rfl ?_)|((with_reducible refine NCall.isF 8 ?_);refine NCall.subE [0] (cw) rfl (by decide) rfl rfl ?_)))|(with_reducible refine NS.keep ?_)|(with_reducible refine NLd.of (by with_reducible assumption) ?_))<;>(conv=>whnf))|((with_reducible refine gX ?_);(first|(with_reducible first|refine z3 ?_|refine z4 ?_|refine z5 ?_|refine z6 ?_|refine z7 ?_|refine z8 ?_|refine z14 ?_|refine z15 ?_)|((with_reducible refine z29 ?_);intro A B hA hB;(conv=>whnf))|(refine z34 (by kernel_rfl) (by kernel_rfl) ?_)))|(with_reducible first|refine z1 ?_|refine z2 ?_|refine z9 ?_|refine z10 ?_|refine z11 ?_|refine z12 ?_|refine z13 ?_|refine z16 ?_|refine z17 ?_|refine z18 ?_|refine z19 ?_|refine z20 ?_|refine z21 ?_|refine z22 ?_|refine z23 ?_)|((with_reducible refine gB ?_);(refine z30 (by decide) ?_))|((with_reducible refine gR ?_);((first|refine z31 rfl ?_|refine z32 rfl ?_);intro K hK;(conv=>whnf)))|((with_reducible refine gF ?_);((refine z33 rfl ?_);intro K hK;(conv=>whnf)))|((refine NFlat_iff.2 ⟨⟨?s1,?s2⟩,?_⟩;(case s1=>decide +kernel);(case s2=>decide +kernel))<;>(conv=>whnf))|((intro _;skip)<;>(conv=>whnf))))
    all_goals first
      | rfl
  obtain ⟨hp1, hp2⟩ := hsm
  rw [decide_eq_true hp1] at s1
  rw [decide_eq_true hp2] at s2
  have cm := mine26_c _ F p u (Nat.le_refl _) hs hu
  have cm2 := fun G (h : F.le G) => mine26_c _ G q w (Nat.le_refl _) hs2 (Pd.Row.mono h hw)
  have cR := fun G u' (h : Pd.Row G u' p.l) => right26_c G p u' (by omega) h
  have dR := fun G (h : F.le G) => refright26_c G p u (by omega) (Pd.Row.mono h hu)
  have cS := fun G u' (h : Pd.Row G u' p.l) => size26_c G _ p u' (Nat.le_refl _) (by omega) h
  have dS := fun G (h : F.le G) => refsize26_c G _ p u (Nat.le_refl _) (by omega) (Pd.Row.mono h hu)
  have cD := fun G u' (h : Pd.Row G u' p.l) => deep26_c G _ p u' (Nat.le_refl _) (by omega) h
  have dD := fun G (h : F.le G) => refdeep26_c G _ p u (Nat.le_refl _) (by omega) (Pd.Row.mono h hu)
  have cE := fun G u' w' (h : Pd.Row G u' p.l) (h2 : Pd.Row G w' q.l) => same26_c G _ p q u' w' (Nat.le_refl _) (by omega) (by omega) h h2
  have dE := fun G (h : F.le G) => refsame26_c G _ p q u w (Nat.le_refl _) (by omega) (by omega) (Pd.Row.mono h hu) (Pd.Row.mono h hw)
  have cH := fun G u' (h : Pd.Row G u' p.l) => Hits26_c G x p u' (by omega) h
  have dH := fun G (h : F.le G) => refhits26_c G x _ p u (Nat.le_refl _) (by omega) (Pd.Row.mono h hu)
  have cT := top26_c f
  have dT := reftop26_c f
  have cG := get26_c f x
  have dG := refget26_c f x
  have hmono : ∀ G G' u', G.le G' → Pd.Row G u' p.l → Pd.Row G' u' p.l := fun G G' u' h h2 => Pd.Row.mono h h2
  by_cases hr : Pd.right p = true
  rotate_left
  · have hr : Pd.right p = false := by simpa using hr
    rw [hr] at cR dR
    have hz1 : Pd.size p ≤ 100 := hp1
    have hz2 : Pd.deep p ≤ 100 := Nat.le_trans (Pd.deep_size p) hp1
    clear hu hw
    generalize Pd.size p = n1 at *
    generalize Pd.size q = n2 at *
    generalize Pd.deep p = n3 at *
    generalize Pd.same p q = b1 at *
    generalize Pd.hits x p = b2 at *
    generalize Pd.top f = n4 at *
    generalize Pd.get f x = n5 at *
    obtain ⟨k, a, v, l⟩ := p
    obtain ⟨k', a', v', l'⟩ := q
    obtain ⟨sw, port, p0, p1, p2, p3⟩ := x
    simp only [pd_cs, Pd.Lays, Pd.T.l, Pd.At.pk] at *
    refine ncall_of Tryd.func4 rfl (by decide) ?_
    (repeat' (first|(with_reducible first|(refine hK _ _ ?_;clear hK K)|(refine hA ?_;clear hA hB A B)|(refine hB ?_;clear hA hB A B)|(refine hK _ ?_;clear hK K))|((with_reducible refine gO ?_);(first|((with_reducible first|refine z25 ?_|refine z26 ?_);intro K hK;(conv=>whnf))|(with_reducible first|refine z0 ?_)))|((first|((with_reducible refine gV ?_);(first|((with_reducible first|refine NV.quo ?s ?_|refine NV.rem ?s ?_|refine NV.i64 ?s ?_|refine NV.u32 ?s ?_|refine NV.u8 ?s ?_|refine NV.u64 ?s ?_);case s=>omega)|(with_reducible first|refine NV.divk ?_|refine NV.modk ?_|refine NV.keep ?_)))|((with_reducible refine gI ?_);(first|(((with_reducible first|refine NIf.yes ?s ?_);case s=>(simp ;done)))|(((with_reducible first|refine NIf.no ?s ?_);case s=>(simp ;done)))|with_reducible refine NIf.not_ ?_|((with_reducible refine NIf.decY ?s ?_);case s=>first|with_reducible rfl|assumption|omega)|((with_reducible refine NIf.decN ?s ?_);case s=>first|with_reducible rfl|assumption|omega)|((with_reducible refine NIf.yes ?s ?_);case s=>first|rfl|assumption)|((with_reducible refine NIf.no ?s ?_);case s=>first|rfl|assumption)|(with_reducible first|refine NIf.dec (fun _=>?_) (fun _=>?_)|refine NIf.both (fun _=>?_) (fun _=>?_))))|((with_reducible refine gN ?_);(with_reducible first|refine NN.lit ?_|refine NN.cast ?_|refine NN.a1 ?_|refine NN.a2 ?_|refine NN.a3 ?_|refine NN.a4 ?_|refine NN.a5 ?_|refine NN.a6 ?_|refine NN.keep ?_))|((with_reducible refine gH ?_);((with_reducible refine NH.mk ?s ?_);case s=>(and_intros<;>first|with_reducible rfl|((with_reducible refine gOnes ?_);rfl)|((with_reducible refine gLen ?_);rfl)|((with_reducible refine gKept ?_);exact rfl)|omega|assumption|exact Nat.le_of_ble_eq_true rfl|(simp only [List.length_append, List.length_cons, List.length_nil]; omega)|rfl)))|((with_reducible refine gC ?_);(first|((with_reducible refine NCall.isF 6 ?_);refine NCall.subE [0] (s1) rfl (by decide) rfl rfl ?_)|((with_reducible refine NCall.isF 6 ?_);refine NCall.subE [0] (s2) rfl (by decide) rfl rfl ?_)|((with_reducible refine NCall.isF 5 ?_);refine NCall.subw [0] _ _ (cm) rfl (by decide) rfl ?_; rintro _ _ ⟨F1, u1, hle1, hu1, rfl, rfl⟩; refine ⟨Nat.le_of_ble_eq_true rfl, _, rfl, ?_⟩)|((with_reducible refine NCall.isF 10 ?_);refine NCall.subE [0] (cR F1 u1 hu1) rfl (by decide) rfl rfl ?_)|((with_reducible refine NCall.isF 11 ?_);refine NCall.subE [0] (dR F1 hle1) rfl (by decide) rfl rfl ?_)|((with_reducible refine NCall.isF 12 ?_);refine NCall.subE [0] (cS F1 u1 hu1) rfl (by decide) rfl rfl ?_)|((with_reducible refine NCall.isF 13 ?_);refine NCall.subE [0] (dS F1 hle1) rfl (by decide) rfl rfl ?_)|((with_reducible refine NCall.isF 14 ?_);refine NCall.subE [0] (cD F1 u1 hu1) rfl (by decide) rfl rfl ?_)|((with_reducible refine NCall.isF 15 ?_);refine NCall.subE [0] (dD F1 hle1) rfl (by decide) rfl rfl ?_)|((with_reducible refine NCall.isF 5 ?_);refine NCall.subw [0] _ _ (cm2 F1 hle1) rfl (by decide) rfl ?_; rintro _ _ ⟨F2, u2, hle2, hu2, rfl, rfl⟩; refine ⟨Nat.le_of_ble_eq_true rfl, _, rfl, ?_⟩)|((with_reducible refine NCall.isF 16 ?_);refine NCall.subE [0] (cE F2 u1 u2 (hmono _ _ _ hle2 hu1) hu2) rfl (by decide) rfl rfl ?_)|((with_reducible refine NCall.isF 17 ?_);refine NCall.subE [0] (dE F2 (hle1.trans hle2)) rfl (by decide) rfl rfl ?_)|((with_reducible refine NCall.isF 9 ?_);refine NCall.subE [0] (cH F2 u1 (hmono _ _ _ hle2 hu1)) rfl (by decide) rfl rfl ?_)|((with_reducible refine NCall.isF 18 ?_);refine NCall.subE [0] (dH F2 (hle1.trans hle2)) rfl (by decide) rfl rfl ?_)|((with_reducible refine NCall.isF 19 ?_);refine NCall.pureE (cT) ?_)|((with_reducible refine NCall.isF 20 ?_);refine NCall.pureE (dT) ?_)|((with_reducible refine NCall.isF 21 ?_);refine NCall.pureE (cG) ?_)|((with_reducible refine NCall.isF 22 ?_);refine NCall.pureE (dG) ?_)|((with_reducible refine NCall.isF 11 ?_);refine NCall.subE [0] (dR F2 (hle1.trans hle2)) rfl (by decide) rfl rfl ?_)|((with_reducible refine NCall.isF 8 ?_);refine NCall.subE [0] (cw F2 (hle1.trans hle2)) rfl (by decide) rfl rfl ?_)))|(with_reducible refine NS.keep ?_)|(with_reducible refine NLd.of (by with_reducible assumption) ?_))<;>(conv=>whnf))|((with_reducible refine gNRK ?_);(first|((with_reducible refine st_ordS1 ?s1 ?s2 ?s3 ?_); (case s1 => kernel_rfl); (case s2 => kernel_rfl); (case s3 => exact rfl); intro K hK; (conv=>whnf))|((with_reducible refine st_ordS1g ?s1 ?s2 ?s3 ?_); (case s1 => kernel_rfl); (case s2 => kernel_rfl); (case s3 => exact rfl); intro K hK; (conv=>whnf))|((with_reducible refine st_ordS2 ?s2 ?_); (case s2 => kernel_rfl); intro K hK; (conv=>whnf))|((with_reducible refine st_ordS2g ?s2 ?s3 ?_); (case s2 => kernel_rfl); (case s3 => exact rfl); intro K hK; (conv=>whnf))|((with_reducible refine st_ordS0 ?s2 ?_); (case s2 => kernel_rfl))|(with_reducible refine st_ordSout ?_)))|((with_reducible refine gNOK ?_);(first|(refine st_ordK1 rfl (by kernel_rfl) rfl ?_; intro K hK; (conv=>whnf))|(refine st_ordK1g rfl (by kernel_rfl) rfl ?_; intro K hK; (conv=>whnf))|(refine st_ordK0 rfl (by kernel_rfl) ?_)|(refine st_ordKA rfl rfl (by kernel_rfl) (by intro h; cases h) ?_)))|((with_reducible refine gNEK ?_);(first|(refine st_eachK ?_ ?_; (intro K hK; (conv=>whnf)))|(refine st_eachKg rfl ?_ ?_; (intro K hK; (conv=>whnf)))|exact st_eachK0))|((with_reducible refine gX ?_);(first|(refine st_orderS [0] rfl rfl (by kernel_rfl) _ rfl ?_)|(with_reducible first|refine z3 ?_|refine z4 ?_|refine z5 ?_|refine z6 ?_|refine z7 ?_|refine z8 ?_|refine z14 ?_|refine z15 ?_)|((with_reducible refine z29 ?_);intro A B hA hB;(conv=>whnf))))|(with_reducible first|refine z1 ?_|refine z2 ?_|refine z9 ?_|refine z10 ?_|refine z11 ?_|refine z12 ?_|refine z13 ?_|refine z16 ?_|refine z17 ?_|refine z18 ?_|refine z19 ?_|refine z20 ?_|refine z21 ?_|refine z22 ?_|refine z23 ?_)|((with_reducible refine gB ?_);(refine z30 (by decide) ?_))|((with_reducible refine gR ?_);((first|refine z31 rfl ?_|refine z32 rfl ?_);intro K hK;(conv=>whnf)))|((with_reducible refine gF ?_);((refine z33 rfl ?_);intro K hK;(conv=>whnf)))|((refine NFlat_iff.2 ⟨⟨?s1,?s2⟩,?_⟩;(case s1=>decide +kernel);(case s2=>decide +kernel))<;>(conv=>whnf))|((intro _;skip)<;>(conv=>whnf))))
    all_goals first
      | rfl
  rw [hr] at cR dR
  obtain ⟨hfit, h64⟩ := Pd.right_fits hr
  have cP := fun G u' (h : Pd.Row G u' p.l) => Push26_c G p u' (by omega) hfit h
  have hX := Pd.push_size p false
  have dP := fun G (h : F.le G) => refpush26_c _ G p u (Nat.le_refl _) (by omega) hfit (Pd.Row.mono h hu)
  have cV := fun G u' (h : Pd.Row G u' p.l) => Values26_c G p u' f hf (by omega) h
  have dV := fun G (h : F.le G) => refvalues26_c G p u f hf (by omega) (Pd.Row.mono h hu)
  rw [Pd.asked_values f p hfit] at dV
  have hVl : (Pd.values f p).length ≤ 100 := by
    rw [← Pd.values_comp]
    have h1 := Srt.comp_le (Srt.sort (Pd.vals f p))
    rw [Srt.sort_len] at h1
    have := Pd.vals_len f p
    omega
  have c13 := fun G v6 v7 h6 h7 => same13_c G (Pd.values f p) (Pd.values f p) v6 v7 h6 h7 (by omega) (by omega)
  have cX := fun G u' (hG : F.le G) (h : Pd.Row G u' p.l) => text26_c G (hT.mono hG) _ p u' (Nat.le_refl _) (by omega) hfit h
  have dX := fun G (h : F.le G) => reftext26_c G _ p u (Nat.le_refl _) (by omega) hfit (Pd.Row.mono h hu)
  have htl := Pd.text_len p hfit
  generalize hPX : Pd.push p false = X at *
  have cTh := fun G u' (h : Pd.Row G u' X.l) => theirs26_c _ G X u' (Nat.le_refl _) (by omega) h
  have cE3 := fun G u' w' (h : Pd.Row G u' X.l) (h2 : Pd.Row G w' X.l) => refsame26_c G _ X X u' w' (Nat.le_refl _) (by omega) (by omega) h h2
  rw [(Pd.same_eq X X).2 rfl] at cE3
  have hmonoX : ∀ G G' u', G.le G' → Pd.Row G u' X.l → Pd.Row G' u' X.l := fun G G' u' h h2 => Pd.Row.mono h h2
  have hmonoV : ∀ G G' u', G.le G' → Srt.Row G u' (Pd.values f p) → Srt.Row G' u' (Pd.values f p) := fun G G' u' h h2 => RowF.mono h (fun _ _ h => h) h2
  have hz1 : Pd.size p ≤ 100 := hp1
  have hz2 : Pd.deep p ≤ 100 := Nat.le_trans (Pd.deep_size p) hp1
  rw [show decide (Pd.values f p = Pd.values f p) = true by simp] at c13
  clear hu hw hPX hX hr
  generalize Pd.size p = n1 at *
  generalize Pd.size q = n2 at *
  generalize Pd.deep p = n3 at *
  generalize Pd.same p q = b1 at *
  generalize Pd.hits x p = b2 at *
  generalize Pd.top f = n4 at *
  generalize Pd.get f x = n5 at *
  generalize Pd.values f p = L at *
  generalize Pd.text p = tx at *
  clear hfit
  obtain ⟨k, a, v, l⟩ := p
  obtain ⟨k', a', v', l'⟩ := q
  obtain ⟨k3, a3, v3, l3⟩ := X
  obtain ⟨sw, port, p0, p1, p2, p3⟩ := x
  simp only [pd_cs, Pd.Lays, Pd.T.l, Pd.At.pk] at *
  refine ncall_of Tryd.func4 rfl (by decide) ?_
  (repeat' (first|(with_reducible first|(refine hK _ _ ?_;clear hK K)|(refine hA ?_;clear hA hB A B)|(refine hB ?_;clear hA hB A B)|(refine hK _ ?_;clear hK K))|((with_reducible refine gO ?_);(first|((with_reducible first|refine z25 ?_|refine z26 ?_);intro K hK;(conv=>whnf))|(with_reducible first|refine z0 ?_)))|((first|((with_reducible refine gV ?_);(first|((with_reducible first|refine NV.quo ?s ?_|refine NV.rem ?s ?_|refine NV.i64 ?s ?_|refine NV.u32 ?s ?_|refine NV.u8 ?s ?_|refine NV.u64 ?s ?_);case s=>omega)|(with_reducible first|refine NV.divk ?_|refine NV.modk ?_|refine NV.keep ?_)))|((with_reducible refine gI ?_);(first|(((with_reducible first|refine NIf.yes ?s ?_);case s=>(simp ;done)))|(((with_reducible first|refine NIf.no ?s ?_);case s=>(simp ;done)))|with_reducible refine NIf.not_ ?_|((with_reducible refine NIf.decY ?s ?_);case s=>first|with_reducible rfl|assumption|omega)|((with_reducible refine NIf.decN ?s ?_);case s=>first|with_reducible rfl|assumption|omega)|((with_reducible refine NIf.yes ?s ?_);case s=>first|rfl|assumption)|((with_reducible refine NIf.no ?s ?_);case s=>first|rfl|assumption)|(with_reducible first|refine NIf.dec (fun _=>?_) (fun _=>?_)|refine NIf.both (fun _=>?_) (fun _=>?_))))|((with_reducible refine gN ?_);(with_reducible first|refine NN.lit ?_|refine NN.cast ?_|refine NN.a1 ?_|refine NN.a2 ?_|refine NN.a3 ?_|refine NN.a4 ?_|refine NN.a5 ?_|refine NN.a6 ?_|refine NN.keep ?_))|((with_reducible refine gH ?_);((with_reducible refine NH.mk ?s ?_);case s=>(and_intros<;>first|with_reducible rfl|((with_reducible refine gOnes ?_);rfl)|((with_reducible refine gLen ?_);rfl)|((with_reducible refine gKept ?_);exact rfl)|omega|assumption|exact Nat.le_of_ble_eq_true rfl|(simp only [List.length_append, List.length_cons, List.length_nil]; omega)|rfl)))|((with_reducible refine gC ?_);(first|((with_reducible refine NCall.isF 6 ?_);refine NCall.subE [0] (s1) rfl (by decide) rfl rfl ?_)|((with_reducible refine NCall.isF 6 ?_);refine NCall.subE [0] (s2) rfl (by decide) rfl rfl ?_)|((with_reducible refine NCall.isF 5 ?_);refine NCall.subw [0] _ _ (cm) rfl (by decide) rfl ?_; rintro _ _ ⟨F1, u1, hle1, hu1, rfl, rfl⟩; refine ⟨Nat.le_of_ble_eq_true rfl, _, rfl, ?_⟩)|((with_reducible refine NCall.isF 10 ?_);refine NCall.subE [0] (cR F1 u1 hu1) rfl (by decide) rfl rfl ?_)|((with_reducible refine NCall.isF 11 ?_);refine NCall.subE [0] (dR F1 hle1) rfl (by decide) rfl rfl ?_)|((with_reducible refine NCall.isF 12 ?_);refine NCall.subE [0] (cS F1 u1 hu1) rfl (by decide) rfl rfl ?_)|((with_reducible refine NCall.isF 13 ?_);refine NCall.subE [0] (dS F1 hle1) rfl (by decide) rfl rfl ?_)|((with_reducible refine NCall.isF 14 ?_);refine NCall.subE [0] (cD F1 u1 hu1) rfl (by decide) rfl rfl ?_)|((with_reducible refine NCall.isF 15 ?_);refine NCall.subE [0] (dD F1 hle1) rfl (by decide) rfl rfl ?_)|((with_reducible refine NCall.isF 5 ?_);refine NCall.subw [0] _ _ (cm2 F1 hle1) rfl (by decide) rfl ?_; rintro _ _ ⟨F2, u2, hle2, hu2, rfl, rfl⟩; refine ⟨Nat.le_of_ble_eq_true rfl, _, rfl, ?_⟩)|((with_reducible refine NCall.isF 16 ?_);refine NCall.subE [0] (cE F2 u1 u2 (hmono _ _ _ hle2 hu1) hu2) rfl (by decide) rfl rfl ?_)|((with_reducible refine NCall.isF 17 ?_);refine NCall.subE [0] (dE F2 (hle1.trans hle2)) rfl (by decide) rfl rfl ?_)|((with_reducible refine NCall.isF 9 ?_);refine NCall.subE [0] (cH F2 u1 (hmono _ _ _ hle2 hu1)) rfl (by decide) rfl rfl ?_)|((with_reducible refine NCall.isF 18 ?_);refine NCall.subE [0] (dH F2 (hle1.trans hle2)) rfl (by decide) rfl rfl ?_)|((with_reducible refine NCall.isF 19 ?_);refine NCall.pureE (cT) ?_)|((with_reducible refine NCall.isF 20 ?_);refine NCall.pureE (dT) ?_)|((with_reducible refine NCall.isF 21 ?_);refine NCall.pureE (cG) ?_)|((with_reducible refine NCall.isF 22 ?_);refine NCall.pureE (dG) ?_)|((with_reducible refine NCall.isF 11 ?_);refine NCall.subE [0] (dR F2 (hle1.trans hle2)) rfl (by decide) rfl rfl ?_)|((with_reducible refine NCall.isF 24 ?_);refine NCall.subw [0] _ _ (cP F2 u1 (hmono _ _ _ hle2 hu1)) rfl (by decide) rfl ?_; rintro _ _ ⟨F3, u3, hle3, hu3, rfl, rfl⟩; refine ⟨Nat.le_of_ble_eq_true rfl, _, rfl, ?_⟩)|((with_reducible refine NCall.isF 23 ?_);refine NCall.subw [0] _ _ (cTh F3 u3 hu3) rfl (by decide) rfl ?_; rintro _ _ ⟨F4, u4, hle4, hu4, rfl, rfl⟩; refine ⟨Nat.le_of_ble_eq_true rfl, _, rfl, ?_⟩)|((with_reducible refine NCall.isF 25 ?_);refine NCall.subw [0] _ _ (dP F4 (((hle1.trans hle2).trans hle3).trans hle4)) rfl (by decide) rfl ?_; rintro _ _ ⟨F5, u5, hle5, hu5, rfl, rfl⟩; refine ⟨Nat.le_of_ble_eq_true rfl, _, rfl, ?_⟩)|((with_reducible refine NCall.isF 17 ?_);refine NCall.subE [0] (cE3 F5 u4 u5 (hmonoX _ _ _ hle5 hu4) hu5) rfl (by decide) rfl rfl ?_)|((with_reducible refine NCall.isF 27 ?_);refine NCall.subw [0] _ _ (cV F5 u1 (hmono _ _ _ (((hle2.trans hle3).trans hle4).trans hle5) hu1)) rfl (by decide) rfl ?_; rintro _ _ ⟨F6, v6, hle6, hv6, rfl, rfl⟩; refine ⟨Nat.le_of_ble_eq_true rfl, _, rfl, ?_⟩)|((with_reducible refine NCall.isF 28 ?_);refine NCall.subw [0] _ _ (dV F6 (((((hle1.trans hle2).trans hle3).trans hle4).trans hle5).trans hle6)) rfl (by decide) rfl ?_; rintro _ _ ⟨F7, v7, hle7, hv7, rfl, rfl⟩; refine ⟨Nat.le_of_ble_eq_true rfl, _, rfl, ?_⟩)|((with_reducible refine NCall.isF 26 ?_);refine NCall.subE [0] (c13 F7 v6 v7 (hmonoV _ _ _ hle7 hv6) hv7) rfl (by decide) rfl rfl ?_)|((with_reducible refine NCall.isF 29 ?_);refine NCall.subE [0] (cX F7 u1 (((((hle1.trans hle2).trans hle3).trans hle4).trans hle5).trans (hle6.trans hle7)) (hmono _ _ _ ((((hle2.trans hle3).trans hle4).trans hle5).trans (hle6.trans hle7)) hu1)) rfl (by decide) rfl rfl ?_)|((with_reducible refine NCall.isF 30 ?_);refine NCall.subE [0] (dX F7 (((((hle1.trans hle2).trans hle3).trans hle4).trans hle5).trans (hle6.trans hle7))) rfl (by decide) rfl rfl ?_)|((with_reducible refine NCall.isF 8 ?_);refine NCall.subE [0] (cw F7 (((((hle1.trans hle2).trans hle3).trans hle4).trans hle5).trans (hle6.trans hle7))) rfl (by decide) rfl rfl ?_)))|(with_reducible refine NS.keep ?_)|(with_reducible refine NLd.of (by with_reducible assumption) ?_))<;>(conv=>whnf))|((with_reducible refine gNRK ?_);(first|((with_reducible refine st_ordS1 ?s1 ?s2 ?s3 ?_); (case s1 => kernel_rfl); (case s2 => kernel_rfl); (case s3 => exact rfl); intro K hK; (conv=>whnf))|((with_reducible refine st_ordS1g ?s1 ?s2 ?s3 ?_); (case s1 => kernel_rfl); (case s2 => kernel_rfl); (case s3 => exact rfl); intro K hK; (conv=>whnf))|((with_reducible refine st_ordS2 ?s2 ?_); (case s2 => kernel_rfl); intro K hK; (conv=>whnf))|((with_reducible refine st_ordS2g ?s2 ?s3 ?_); (case s2 => kernel_rfl); (case s3 => exact rfl); intro K hK; (conv=>whnf))|((with_reducible refine st_ordS0 ?s2 ?_); (case s2 => kernel_rfl))|(with_reducible refine st_ordSout ?_)))|((with_reducible refine gNOK ?_);(first|(refine st_ordK1 rfl (by kernel_rfl) rfl ?_; intro K hK; (conv=>whnf))|(refine st_ordK1g rfl (by kernel_rfl) rfl ?_; intro K hK; (conv=>whnf))|(refine st_ordK0 rfl (by kernel_rfl) ?_)|(refine st_ordKA rfl rfl (by kernel_rfl) (by intro h; cases h) ?_)))|((with_reducible refine gNEK ?_);(first|(refine st_eachK ?_ ?_; (intro K hK; (conv=>whnf)))|(refine st_eachKg rfl ?_ ?_; (intro K hK; (conv=>whnf)))|exact st_eachK0))|((with_reducible refine gX ?_);(first|(refine st_orderS [0] rfl rfl (by kernel_rfl) _ rfl ?_)|(with_reducible first|refine z3 ?_|refine z4 ?_|refine z5 ?_|refine z6 ?_|refine z7 ?_|refine z8 ?_|refine z14 ?_|refine z15 ?_)|((with_reducible refine z29 ?_);intro A B hA hB;(conv=>whnf))))|(with_reducible first|refine z1 ?_|refine z2 ?_|refine z9 ?_|refine z10 ?_|refine z11 ?_|refine z12 ?_|refine z13 ?_|refine z16 ?_|refine z17 ?_|refine z18 ?_|refine z19 ?_|refine z20 ?_|refine z21 ?_|refine z22 ?_|refine z23 ?_)|((with_reducible refine gB ?_);(refine z30 (by decide) ?_))|((with_reducible refine gR ?_);((first|refine z31 rfl ?_|refine z32 rfl ?_);intro K hK;(conv=>whnf)))|((with_reducible refine gF ?_);((refine z33 rfl ?_);intro K hK;(conv=>whnf)))|((refine NFlat_iff.2 ⟨⟨?s1,?s2⟩,?_⟩;(case s1=>decide +kernel);(case s2=>decide +kernel))<;>(conv=>whnf))|((intro _;skip)<;>(conv=>whnf))))
  all_goals rfl
end Go.Proofs.YtfolnkbkojjcbaaDoor

