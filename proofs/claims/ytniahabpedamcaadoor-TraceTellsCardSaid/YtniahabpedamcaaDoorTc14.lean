/-
  TraceTells, walked.
-/
import Derived.Test.YtniahabpedamcaaDoorTc13
namespace Go.Proofs.YtniahabpedamcaaDoor
open Go.Sx
set_option maxRecDepth 20000
set_option linter.unusedSimpArgs false
set_option linter.unusedVariables false
set_option maxHeartbeats 8000000
set_option linter.unusedVariables false
theorem ptells41_c (F : Heap) (hF : TabF F) (v : Value) (l : List Tc.E) (hv : Tc.ERow F v l) (hin : ∀ e ∈ l, e.In) : NCall Tryd.prog 3 [.hs v l.length] [hpB F] fun r _ => r = .bool true := by
  have hok := hv.ok
  have ca := fun G (h : F.le G) => awake41_c G (TabF.mono h hF)
  refine ncall_of Tryd.func3 rfl (by decide) ?_
  by_cases hl : l.length ≤ 100
  · have hsh := Tc.tr_short l
    have hci := Tc.tr_in hin
    have hlen : (Tc.tr l).length ≤ 1000 := by have := hsh.1; omega
    have hsl : ∀ c ∈ Tc.tr l, c.sws.length ≤ 1000 := fun c hc => by have := hsh.2 c hc; omega
    have co := of41_c F v l hv (by omega)
    have cr := fun G (h : F.le G) => refof41_c G v l (Tc.erow_mono h hv) (by omega)
    generalize Tc.tr l = t at *
    have cT := fun G u (hu : Tc.Row G u t) => theirs41_c G u t hu hlen
    have cS := fun G a b (ha : Tc.Row G a t) (hb : Tc.Row G b t) => refsame41_c G t t a b ha hb hlen hlen hsl hsl
    rw [decide_eq_true rfl] at cS
    (repeat' (first|(with_reducible first|(refine hK _ _ ?_;clear hK K)|(refine hB ?_;clear hA hB A B)|(refine hK _ ?_;clear hK K))|((with_reducible refine gO ?_);(first|((with_reducible refine z25 ?_);intro K hK;(conv=>whnf))|(with_reducible refine z0 ?_)))|((first|((with_reducible refine gI ?_);(first|(((with_reducible refine NIf.no ?s ?_);case s=>(simp ;done)))|((with_reducible refine NIf.decN ?s ?_);case s=>omega)))|((with_reducible refine gH ?_;refine NH.mk ?s ?_);case s=>(and_intros<;>omega))|((with_reducible refine gC ?_);(first|((with_reducible refine NCall.isF 6 ?_);refine NCall.subw [0] _ _ (co) rfl (by decide) rfl ?_; rintro _ _ ⟨G1, u1, hle1, hu1, rfl, rfl⟩; refine ⟨Nat.le_of_ble_eq_true rfl, _, rfl, ?_⟩)|((with_reducible refine NCall.isF 7 ?_);refine NCall.subw [0] _ _ (cr G1 hle1) rfl (by decide) rfl ?_; rintro _ _ ⟨G2, u2, hle2, hu2, rfl, rfl⟩; refine ⟨Nat.le_of_ble_eq_true rfl, _, rfl, ?_⟩)|((with_reducible refine NCall.isF 9 ?_);refine NCall.subw [0] _ _ (cT G2 u1 (Tc.Row.mono hle2 hu1)) rfl (by decide) rfl ?_; rintro _ _ ⟨G3, u3, hle3, hu3, rfl, rfl⟩; refine ⟨Nat.le_of_ble_eq_true rfl, _, rfl, ?_⟩)|((with_reducible refine NCall.isF 8 ?_);refine NCall.subE [0] (cS G3 u3 u2 hu3 (Tc.Row.mono hle3 hu2)) rfl (by decide) rfl rfl ?_))))<;>(conv=>whnf))|((with_reducible refine gX ?_);(first|(with_reducible first|refine z3 ?_|refine z4 ?_|refine z5 ?_|refine z6 ?_)|((with_reducible refine z29 ?_);intro A B hA hB;(conv=>whnf))))|(with_reducible first|refine z1 ?_|refine z2 ?_)|((with_reducible refine gF ?_);((refine z33 rfl ?_);intro K hK;(conv=>whnf)))))
    have hF3 := hle1.trans (hle2.trans hle3)
    have hu1' := Tc.Row.mono (hle2.trans hle3) hu1
    have hu2' := Tc.Row.mono hle3 hu2
    have hok1 := hu1'.ok
    have hok2 := hu2'.ok
    refine st_auto (α := Nat) (fun i => i ≤ t.length) (fun i => [.keep, .keep, .set (.bool false), .keep, .keep, .set (.int .i64 i), .drop, .keep, .keep, .keep, .keep, .keep, .keep, .keep, .keep, .keep, .keep, .keep, .keep, .keep, .drop, .drop, .drop, .drop, .drop, .drop, .drop, .drop, .drop, .drop, .drop, .drop, .drop, .drop, .drop, .drop, .drop, .drop, .drop, .drop, .drop, .drop, .drop, .drop, .drop, .drop, .drop, .drop, .drop, .drop, .drop, .drop, .drop, .drop, .drop, .drop, .drop, .drop, .drop, .drop, .drop, .drop, .drop, .drop, .drop, .drop, .drop, .drop, .drop, .keep]) (fun _ => []) (fun i => t.length - i) 0 (Nat.zero_le _) ?_ (MemFits.eq rfl) ?_
    · repeat (first|exact FitsSl.nil|refine FitsSl.any ?_|refine FitsSl.cons (Fit1.int (by first | rfl | omega)) ?_|refine FitsSl.cons (Fit1.bool rfl) ?_|refine FitsSl.cons (Fit1.same (by intro h; cases h) (by with_reducible rfl)) ?_)
    (intro i hi; intro K hK; (conv=>whnf); refine hK _ _ ?_; clear hK K)
    by_cases hlt : i < t.length
    · have hx : t[i]? = some t[i] := List.getElem?_eq_getElem hlt
      obtain ⟨A1, cap1, hr1, c0, c1, c2, c3, c4, c5, c6, c7⟩ := hu1'.get hx
      obtain ⟨A2, cap2, hr2, d0, d1, d2, d3, d4, d5, d6, d7⟩ := hu2'.get hx
      have hxi := hci _ (List.getElem_mem hlt)
      have hxl := hsl _ (List.getElem_mem hlt)
      generalize t[i] = x at *
      have hok3 := hr1.ok
      have hok4 := hr2.ok
      have ch := hops41_c G3 x _ hr1 hxl
      have cw := twice41_c G3 x _ hr1 hxl
      have cw2 := reftwice41_c G3 x.sws _ hr2 hxl
      have ct := text41_c G3 (TabF.mono hF3 hF) x _ hr1 hxl hxi
      have ct2 := reftext41_c G3 x _ hr2 hxl hxi
      simp only [Tc.cs] at ch cw ct ct2
      by_cases h0 : x.sws.length = 0
      · rw [show Tc.hops x.sws = 0 from if_pos h0] at ch
        (repeat' (first|(with_reducible first|(refine hK _ _ ?_;clear hK K)|(refine hA ?_;clear hA hB A B)|(refine hB ?_;clear hA hB A B)|(refine hK _ ?_;clear hK K))|((with_reducible refine gO ?_);(first|((with_reducible refine z25 ?_);intro K hK;(conv=>whnf))|(with_reducible refine z0 ?_)))|((first|((with_reducible refine gV ?_);(((with_reducible refine NV.i64 ?s ?_);case s=>omega)))|((with_reducible refine gI ?_);(first|(((with_reducible refine NIf.no ?s ?_);case s=>(simp ;done)))|((with_reducible refine NIf.decY ?s ?_);case s=>omega)))|(with_reducible refine gN ?_;first|refine NN.cast ?_|refine NN.a6 ?_|refine NN.keep ?_)|((with_reducible refine gH ?_;refine NH.mk ?s ?_);case s=>(and_intros<;>first|((with_reducible refine gKept ?_);exact rfl)|omega))|((with_reducible refine gC ?_);(first|((with_reducible refine NCall.isF 10 ?_);refine NCall.subE [0] (ch) rfl (by decide) rfl rfl ?_)|((with_reducible refine NCall.isF 11 ?_);refine NCall.subE [0] (cw) rfl (by decide) rfl rfl ?_)|((with_reducible refine NCall.isF 12 ?_);refine NCall.subE [0] (cw2) rfl (by decide) rfl rfl ?_)|((with_reducible refine NCall.isF 13 ?_);refine NCall.subE [0] (ct) rfl (by decide) rfl rfl ?_)|((with_reducible refine NCall.isF 14 ?_);refine NCall.subE [0] (ct2) rfl (by decide) rfl rfl ?_)))|(with_reducible refine NLd.of (by with_reducible assumption) ?_))<;>(conv=>whnf))|(with_reducible refine gNRK ?_;refine st_ordSout ?_)|((with_reducible refine gNOK ?_);(first|(refine st_ordK1 rfl (by kernel_rfl) rfl ?_; intro K hK; (conv=>whnf))|(refine st_ordK1g rfl (by kernel_rfl) rfl ?_; intro K hK; (conv=>whnf))|(refine st_ordK0 rfl (by kernel_rfl) ?_)|(refine st_ordKA rfl rfl (by kernel_rfl) (by intro h; cases h) ?_)))|((with_reducible refine gNEK ?_);(first|(refine st_eachK ?_ ?_; (intro K hK; (conv=>whnf)))|(refine st_eachKg rfl ?_ ?_; (intro K hK; (conv=>whnf)))|exact st_eachK0))|((with_reducible refine gX ?_);(first|(refine st_orderS [] rfl rfl (by kernel_rfl) _ rfl ?_)|(with_reducible first|refine z3 ?_|refine z4 ?_|refine z5 ?_|refine z6 ?_)|((with_reducible refine z29 ?_);intro A B hA hB;(conv=>whnf))))|(with_reducible first|refine z1 ?_|refine z2 ?_|refine z9 ?_)))
        all_goals refine st_round (i + 1) hlt (by omega) ?_ (MemFits.eq rfl)
        all_goals repeat (first|exact FitsSl.nil|refine FitsSl.any ?_|refine FitsSl.cons (Fit1.int (by first | rfl | omega)) ?_|refine FitsSl.cons (Fit1.bool rfl) ?_|refine FitsSl.cons (Fit1.same (by intro h; cases h) (by with_reducible rfl)) ?_)
      · rw [show Tc.hops x.sws = x.sws.length - 1 from if_neg h0] at ch
        (repeat' (first|(with_reducible first|(refine hK _ _ ?_;clear hK K)|(refine hA ?_;clear hA hB A B)|(refine hB ?_;clear hA hB A B)|(refine hK _ ?_;clear hK K))|((with_reducible refine gO ?_);(first|((with_reducible refine z25 ?_);intro K hK;(conv=>whnf))|(with_reducible refine z0 ?_)))|((first|((with_reducible refine gV ?_);(((with_reducible refine NV.i64 ?s ?_);case s=>omega)))|((with_reducible refine gI ?_);(first|(((with_reducible refine NIf.no ?s ?_);case s=>(simp ;done)))|((with_reducible refine NIf.decY ?s ?_);case s=>omega)|((with_reducible refine NIf.decN ?s ?_);case s=>omega)))|(with_reducible refine gN ?_;first|refine NN.cast ?_|refine NN.a6 ?_|refine NN.keep ?_)|((with_reducible refine gH ?_;refine NH.mk ?s ?_);case s=>(and_intros<;>first|((with_reducible refine gKept ?_);exact rfl)|omega))|((with_reducible refine gC ?_);(first|((with_reducible refine NCall.isF 10 ?_);refine NCall.subE [0] (ch) rfl (by decide) rfl rfl ?_)|((with_reducible refine NCall.isF 11 ?_);refine NCall.subE [0] (cw) rfl (by decide) rfl rfl ?_)|((with_reducible refine NCall.isF 12 ?_);refine NCall.subE [0] (cw2) rfl (by decide) rfl rfl ?_)|((with_reducible refine NCall.isF 13 ?_);refine NCall.subE [0] (ct) rfl (by decide) rfl rfl ?_)|((with_reducible refine NCall.isF 14 ?_);refine NCall.subE [0] (ct2) rfl (by decide) rfl rfl ?_)))|(with_reducible refine NLd.of (by with_reducible assumption) ?_))<;>(conv=>whnf))|(with_reducible refine gNRK ?_;refine st_ordSout ?_)|((with_reducible refine gNOK ?_);(first|(refine st_ordK1 rfl (by kernel_rfl) rfl ?_; intro K hK; (conv=>whnf))|(refine st_ordK1g rfl (by kernel_rfl) rfl ?_; intro K hK; (conv=>whnf))|(refine st_ordK0 rfl (by kernel_rfl) ?_)|(refine st_ordKA rfl rfl (by kernel_rfl) (by intro h; cases h) ?_)))|((with_reducible refine gNEK ?_);(first|(refine st_eachK ?_ ?_; (intro K hK; (conv=>whnf)))|(refine st_eachKg rfl ?_ ?_; (intro K hK; (conv=>whnf)))|exact st_eachK0))|((with_reducible refine gX ?_);(first|(refine st_orderS [] rfl rfl (by kernel_rfl) _ rfl ?_)|(with_reducible first|refine z3 ?_|refine z4 ?_|refine z5 ?_|refine z6 ?_)|((with_reducible refine z29 ?_);intro A B hA hB;(conv=>whnf))))|(with_reducible first|refine z1 ?_|refine z2 ?_|refine z9 ?_)))
        all_goals refine st_round (i + 1) hlt (by omega) ?_ (MemFits.eq rfl)
        all_goals repeat (first|exact FitsSl.nil|refine FitsSl.any ?_|refine FitsSl.cons (Fit1.int (by first | rfl | omega)) ?_|refine FitsSl.cons (Fit1.bool rfl) ?_|refine FitsSl.cons (Fit1.same (by intro h; cases h) (by with_reducible rfl)) ?_)
    · (repeat' (first|(with_reducible first|(refine hK _ _ ?_;clear hK K)|(refine hB ?_;clear hA hB A B)|(refine hK _ ?_;clear hK K))|((with_reducible refine gO ?_);(first|((with_reducible refine z25 ?_);intro K hK;(conv=>whnf))|(with_reducible refine z0 ?_)))|((first|((with_reducible refine gI ?_);(((with_reducible refine NIf.decN ?s ?_);case s=>omega)))|((with_reducible refine gH ?_;refine NH.mk ?s ?_);case s=>(and_intros<;>omega))|((with_reducible refine gC ?_;refine NCall.isF 5 ?_);refine NCall.subE [0] (ca G3 hF3) rfl (by decide) rfl rfl ?_))<;>(conv=>whnf))|((with_reducible refine gX ?_);(first|(with_reducible first|refine z3 ?_|refine z4 ?_|refine z7 ?_|refine z8 ?_)|((with_reducible refine z29 ?_);intro A B hA hB;(conv=>whnf))))|(with_reducible first|refine z1 ?_|refine z2 ?_|refine z10 ?_|refine z11 ?_|refine z19 ?_)|((with_reducible refine gR ?_);((refine z31 rfl ?_);intro K hK;(conv=>whnf)))))
      all_goals rfl
  · (repeat' (first|(with_reducible first|(refine hK _ _ ?_;clear hK K)|(refine hA ?_;clear hA hB A B)|(refine hK _ ?_;clear hK K))|((with_reducible refine gO ?_);(first|((with_reducible refine z25 ?_);intro K hK;(conv=>whnf))|(with_reducible refine z0 ?_)))|((first|((with_reducible refine gI ?_);(((with_reducible refine NIf.decY ?s ?_);case s=>omega)))|((with_reducible refine gH ?_;refine NH.mk ?s ?_);case s=>(and_intros<;>omega))|((with_reducible refine gC ?_;refine NCall.isF 5 ?_);refine NCall.subE [0] (ca F F.le_refl) rfl (by decide) rfl rfl ?_))<;>(conv=>whnf))|((with_reducible refine gX ?_);(first|(with_reducible first|refine z3 ?_|refine z4 ?_|refine z8 ?_)|((with_reducible refine z29 ?_);intro A B hA hB;(conv=>whnf))))|(with_reducible first|refine z1 ?_|refine z2 ?_|refine z12 ?_)|((with_reducible refine gR ?_);((refine z31 rfl ?_);intro K hK;(conv=>whnf)))|((with_reducible refine gF ?_);((refine z33 rfl ?_);intro K hK;(conv=>whnf)))))
    all_goals first | rfl | (exfalso; omega)
end Go.Proofs.YtniahabpedamcaaDoor


