import Derived.Test.YtniahabpedamcaaDoorTc13
namespace Go.Proofs.YtniahabpedamcaaDoor
open Go.Sx
set_option maxRecDepth 20000
set_option linter.unusedSimpArgs false
set_option linter.unusedVariables false
set_option maxHeartbeats 8000000
set_option linter.unusedVariables false
namespace Tc
def eA (l : List E) : List AV := l.flatMap E.A
theorem eA_den (l : List E) : denL (eA l) = l.flatMap E.V := by
  induction l with
  | nil => rfl
  | cons x l ih => unfold eA at *; rw [List.flatMap_cons, List.flatMap_cons, denL_append, ih]; rfl
theorem eA_len (l : List E) : (eA l).length = l.length * 6 := by
  induction l with
  | nil => rfl
  | cons x l ih => unfold eA at *; rw [List.flatMap_cons, List.length_append, ih, List.length_cons]; show 6 + _ = _; omega
theorem eA_reads {F : Heap} {v : Value} {l : List E} (h : ERow F v l) : CellsF F (addrOf v) 0 (denL (eA l)) := by
  rw [eA_den]
  exact (RowF.all (enc := E.V) h).1
theorem ones_eA (l : List E) : Go.Sx.ones (eA l) = true := by
  induction l with
  | nil => rfl
  | cons x l ih => unfold eA at *; rw [List.flatMap_cons]; simpa [E.A, Go.Sx.ones] using ih
theorem inj_take {l : List E} {i : Nat} (h : i < l.length) : inj (l.take (i + 1)) = inj (l.take i) + if l[i].kind = 1 then 1 else 0 := by
  rw [List.take_succ_eq_append_getElem h, inj_append]
  simp [inj]
theorem inj_le (l : List E) : inj l ≤ l.length := by
  induction l with
  | nil => exact Nat.le_refl _
  | cons x l ih => unfold inj; simp only [List.length_cons]; split <;> omega
theorem sub_one {F : Heap} {v : Value} {l : List C} (h : Row F v l) {i : Nat} {x : C} (hx : l[i]? = some x) : Row F (cutSl v 8 i (i + 1)) [x] := by
  obtain ⟨hi, rfl⟩ := List.getElem?_eq_some_iff.1 hx
  have h1 := RowF.cut h (lo := i) (hi := i + 1) (by omega) (by omega)
  have e : (l.drop i).take (i + 1 - i) = [l[i]] := by rw [List.drop_eq_getElem_cons hi, show i + 1 - i = 1 by omega]; rfl
  rwa [e] at h1
end Tc
theorem pown41_c (F : Heap) (hF : TabF F) (v : Value) (l : List Tc.E) (e : Tc.E) (hv : Tc.ERow F v l) : NCall Tryd.prog 4 [.hs v l.length, .agg e.A] [hpB F] fun r _ => r = .bool true := by
  have hok := hv.ok
  have ca := fun G (h : F.le G) => awake41_c G (TabF.mono h hF)
  refine ncall_of Tryd.func4 rfl (by decide) ?_
  unfold Tc.E.A
  by_cases hl : l.length ≤ 100
  · (repeat' (first|(with_reducible first|(refine hK _ _ ?_;clear hK K)|(refine hB ?_;clear hA hB A B)|(refine hK _ ?_;clear hK K))|((with_reducible refine gO ?_);(first|((with_reducible refine z25 ?_);intro K hK;(conv=>whnf))|(with_reducible refine z0 ?_)))|((first|((with_reducible refine gI ?_);(((with_reducible refine NIf.decN ?s ?_);case s=>omega)))|((with_reducible refine gH ?_;refine NH.mk ?s ?_);case s=>(and_intros<;>omega)))<;>(conv=>whnf))|((with_reducible refine gX ?_);(first|(with_reducible first|refine z3 ?_|refine z4 ?_|refine z5 ?_|refine z6 ?_)|((with_reducible refine z29 ?_);intro A B hA hB;(conv=>whnf))))|(with_reducible first|refine z1 ?_|refine z2 ?_)|((with_reducible refine gF ?_);((refine z33 rfl ?_);intro K hK;(conv=>whnf)))|((intro _;skip)<;>(conv=>whnf))))
    refine st_auto (α := Nat) (fun i => i ≤ l.length) (fun i => [.keep, .keep, .keep, .keep, .keep, .set (.int .i64 (Tc.inj (l.take i))), .set (.int .i64 i), .keep, .keep, .keep, .keep, .keep, .keep, .keep, .keep, .drop, .drop, .drop, .drop, .drop, .drop, .drop, .drop, .drop, .drop, .drop, .drop, .drop, .drop, .keep, .keep, .keep, .keep, .keep, .keep, .keep, .keep, .keep, .keep, .keep, .keep, .keep, .keep, .keep, .keep, .keep, .keep, .keep, .keep, .keep, .keep, .keep, .keep, .keep, .keep, .keep, .keep, .keep, .keep, .keep, .keep, .keep, .keep, .keep, .keep, .keep, .keep, .keep, .keep, .keep, .keep, .keep, .keep, .keep, .keep, .keep, .keep, .keep, .keep, .keep, .keep, .keep, .keep, .keep, .keep, .keep, .keep, .keep]) (fun _ => []) (fun i => l.length - i) 0 (Nat.zero_le _) ?_ (MemFits.eq rfl) ?_
    · repeat (first|exact FitsSl.nil|refine FitsSl.any ?_|refine FitsSl.cons (Fit1.int (by first | rfl | omega)) ?_|refine FitsSl.cons (Fit1.bool rfl) ?_|refine FitsSl.cons (Fit1.same (by intro h; cases h) (by with_reducible rfl)) ?_)
    (intro i hi; intro K hK; (conv=>whnf); refine hK _ _ ?_; clear hK K)
    have hij := Tc.inj_le (l.take i)
    rw [List.length_take, Nat.min_eq_left hi] at hij
    by_cases hlt : i < l.length
    · have hx : l[i]? = some l[i] := List.getElem?_eq_getElem hlt
      obtain ⟨c0, _⟩ := hv.get hx
      have hnx := Tc.inj_take hlt
      generalize l[i] = x at *
      by_cases hk : x.kind = 1
      · rw [if_pos hk] at hnx
        (repeat' (first|(with_reducible first|(refine hK _ _ ?_;clear hK K)|(refine hA ?_;clear hA hB A B))|((with_reducible refine gO ?_);(first|((with_reducible refine z25 ?_);intro K hK;(conv=>whnf))|(with_reducible refine z0 ?_)))|((first|((with_reducible refine gV ?_);(((with_reducible refine NV.i64 ?s ?_);case s=>omega)))|((with_reducible refine gI ?_);(((with_reducible refine NIf.decY ?s ?_);case s=>first|assumption|omega)))|(with_reducible refine gN ?_;first|refine NN.cast ?_|refine NN.a6 ?_|refine NN.keep ?_)|((with_reducible refine gH ?_;refine NH.mk ?s ?_);case s=>(and_intros<;>omega))|(with_reducible refine NLd.of (by with_reducible assumption) ?_))<;>(conv=>whnf))|((with_reducible refine gX ?_);(first|(with_reducible first|refine z3 ?_|refine z4 ?_|refine z5 ?_|refine z6 ?_)|((with_reducible refine z29 ?_);intro A B hA hB;(conv=>whnf))))|(with_reducible first|refine z1 ?_|refine z2 ?_|refine z9 ?_)))
        all_goals refine st_round (i + 1) hlt (by omega) ?_ (MemFits.eq rfl)
        all_goals repeat (first|exact FitsSl.nil|refine FitsSl.any ?_|refine FitsSl.cons (Fit1.int (by first | rfl | omega)) ?_|refine FitsSl.cons (Fit1.bool rfl) ?_|refine FitsSl.cons (Fit1.same (by intro h; cases h) (by with_reducible rfl)) ?_)
      · rw [if_neg hk] at hnx
        (repeat' (first|(with_reducible first|(refine hK _ _ ?_;clear hK K)|(refine hA ?_;clear hA hB A B)|(refine hB ?_;clear hA hB A B))|((with_reducible refine gO ?_);(first|((with_reducible refine z25 ?_);intro K hK;(conv=>whnf))|(with_reducible refine z0 ?_)))|((first|((with_reducible refine gV ?_);(((with_reducible refine NV.i64 ?s ?_);case s=>omega)))|((with_reducible refine gI ?_);(first|(((with_reducible refine NIf.no ?s ?_);case s=>(simpa using hk)))|((with_reducible refine NIf.decY ?s ?_);case s=>omega)))|(with_reducible refine gN ?_;first|refine NN.cast ?_|refine NN.a6 ?_|refine NN.keep ?_)|((with_reducible refine gH ?_;refine NH.mk ?s ?_);case s=>(and_intros<;>omega))|(with_reducible refine NLd.of (by with_reducible assumption) ?_))<;>(conv=>whnf))|((with_reducible refine gX ?_);(first|(with_reducible first|refine z3 ?_|refine z4 ?_|refine z5 ?_|refine z6 ?_)|((with_reducible refine z29 ?_);intro A B hA hB;(conv=>whnf))))|(with_reducible first|refine z1 ?_|refine z2 ?_|refine z9 ?_)))
        all_goals refine st_round (i + 1) hlt (by omega) ?_ (MemFits.eq rfl)
        all_goals repeat (first|exact FitsSl.nil|refine FitsSl.any ?_|refine FitsSl.cons (Fit1.int (by first | rfl | omega)) ?_|refine FitsSl.cons (Fit1.bool rfl) ?_|refine FitsSl.cons (Fit1.same (by intro h; cases h) (by with_reducible rfl)) ?_)
    · have hii : i = l.length := by omega
      rw [hii, List.take_length] at hij
      rw [hii, List.take_length]
      have hsh := Tc.tr_short l
      have hsh2 := Tc.tr_short (l ++ [e])
      have hl2 : (l ++ [e]).length = l.length + 1 := by simp
      rw [hl2] at hsh2
      have htl := Tc.tr_len l
      have htl2 := Tc.tr_len (l ++ [e])
      have hia := Tc.inj_append l [e]
      have hstep := Tc.tr_snoc l e
      have co := fun G (h : F.le G) => of41_c G v l (Tc.erow_mono h hv) (by omega)
      have co2 := fun G w cs (hcs : denL cs = (l ++ [e]).flatMap Tc.E.V) => of41_own G w (l ++ [e]) cs 41 1 hcs (by omega)
      rw [hl2] at co2
      have hcs : denL (Tc.eA l ++ [.int .i64 e.kind, .int .i64 e.real, .int .i64 e.u, .int .i64 e.sw, .int .i64 e.x, .int .i64 e.y]) = (l ++ [e]).flatMap Tc.E.V := by
        rw [denL_append, Tc.eA_den, List.flatMap_append]
        rfl
      have hels := Tc.eA_len l
      have helr := Tc.eA_reads hv
      have hone := Tc.ones_eA l
      have hext := fun i (c : Tc.C) (h : (Tc.tr l)[i]? = some c) (hc : c.id ≠ e.u ∨ c.end_ ≠ 0) => Tc.step_ext (e := e) h hc
      rw [← hstep] at hext
      generalize Tc.tr l = ta at *
      generalize Tc.tr (l ++ [e]) = tb at *
      generalize Tc.eA l = ea at *
      have cT := fun G u (hu : Tc.Row G u ta) => theirs41_c G u ta hu (by have := hsh.1; omega)
      have cT2 := fun G u (hu : Tc.Row G u tb) => theirs41_c G u tb hu (by have := hsh2.1; omega)
      (repeat' (first|(with_reducible first|(refine hK _ _ ?_;clear hK K)|(refine hB ?_;clear hA hB A B))|((with_reducible refine gO ?_);(first|((with_reducible refine z25 ?_);intro K hK;(conv=>whnf))|(with_reducible refine z0 ?_)))|((first|((with_reducible refine gI ?_);((((with_reducible refine NIf.no ?s ?_);case s=>(simp ;done)))))|((with_reducible refine gH ?_;refine NH.mk ?s ?_);case s=>(and_intros<;>first|with_reducible rfl|((with_reducible refine gOnes ?_);rfl)|((with_reducible refine gLen ?_);rfl)|omega))|((with_reducible refine gC ?_);(first|((with_reducible refine NCall.isF 6 ?_);refine NCall.subw [0] _ _ (co F F.le_refl) rfl (by decide) rfl ?_; rintro _ _ ⟨G1, u1, hle1, hu1, rfl, rfl⟩; refine ⟨Nat.le_of_ble_eq_true rfl, _, rfl, ?_⟩)|((with_reducible refine NCall.isF 9 ?_);refine NCall.subw [0] _ _ (cT G1 u1 hu1) rfl (by decide) rfl ?_; rintro _ _ ⟨G2, u2, hle2, hu2, rfl, rfl⟩; refine ⟨Nat.le_of_ble_eq_true rfl, _, rfl, ?_⟩)|((with_reducible refine NCall.isF 6 ?_);refine NCall.subw [0, 2] _ _ (co2 G2 _ _ hcs) rfl (by decide) rfl ?_; rintro _ _ ⟨G3, u3, hle3, _, hu3, rfl, rfl⟩; refine ⟨Nat.le_of_ble_eq_true rfl, _, rfl, ?_⟩)|((with_reducible refine NCall.isF 9 ?_);refine NCall.subw [0] _ _ (cT2 G3 u3 hu3) rfl (by decide) rfl ?_; rintro _ _ ⟨G4, u4, hle4, hu4, rfl, rfl⟩; refine ⟨Nat.le_of_ble_eq_true rfl, _, rfl, ?_⟩))))<;>(conv=>whnf))|(refine NRd.of ea hels helr ?_; conv=>whnf)|((with_reducible refine gX ?_);(first|(with_reducible first|refine z3 ?_|refine z4 ?_|refine z7 ?_)|((with_reducible refine z29 ?_);intro A B hA hB;(conv=>whnf))))|(with_reducible first|refine z1 ?_|refine z2 ?_|refine z10 ?_|refine z11 ?_|refine z19 ?_)|((intro _;skip)<;>(conv=>whnf))))
      have hu2' := Tc.Row.mono (hle3.trans hle4) hu2
      have hok5 := hu2.ok
      have hok6 := hu4.ok
      have hle5 : F.le G4 := hle1.trans (hle2.trans (hle3.trans hle4))
      have hia1 : Tc.inj [e] = Tc.inj [e] := rfl
      (repeat' (first|(with_reducible first|(refine hK _ _ ?_;clear hK K)|(refine hB ?_;clear hA hB A B))|((with_reducible refine gO ?_);(first|((with_reducible first|refine z25 ?_|refine z26 ?_);intro K hK;(conv=>whnf))|(with_reducible refine z0 ?_)))|((first|((with_reducible refine gI ?_);(first|with_reducible refine NIf.not_ ?_|((with_reducible refine NIf.decY ?s ?_);case s=>omega)|((with_reducible refine NIf.decN ?s ?_);case s=>omega)))|((with_reducible refine gH ?_;refine NH.mk ?s ?_);case s=>(and_intros<;>omega)))<;>(conv=>whnf))|((with_reducible refine gX ?_);(first|(with_reducible first|refine z3 ?_|refine z4 ?_|refine z5 ?_|refine z6 ?_)|((with_reducible refine z29 ?_);intro A B hA hB;(conv=>whnf))))|(with_reducible first|refine z1 ?_|refine z2 ?_)))
      refine st_auto (α := Nat) (fun i => i ≤ Tc.inj l) (fun i => [.keep, .keep, .keep, .keep, .set (.bool false), .keep, .keep, .keep, .keep, .keep, .set (.int .i64 i), .keep, .keep, .keep, .keep, .keep, .keep, .keep, .keep, .keep, .keep, .keep, .keep, .keep, .keep, .keep, .keep, .keep, .keep, .keep, .keep, .keep, .keep, .keep, .keep, .keep, .keep, .keep, .keep, .keep, .keep, .keep, .keep, .keep, .keep, .keep, .keep, .keep, .keep, .keep, .keep, .keep, .drop, .drop, .drop, .drop, .drop, .drop, .drop, .drop, .drop, .drop, .drop, .drop, .drop, .drop, .drop, .drop, .drop, .drop, .drop, .drop, .drop, .drop, .drop, .drop, .drop, .drop, .drop, .drop, .drop, .drop, .drop, .drop, .drop, .drop, .drop, .keep]) (fun _ => [.keep, .keep]) (fun i => Tc.inj l - i) 0 (Nat.zero_le _) ?_ (MemFits.eq rfl) ?_
      · repeat (first|exact FitsSl.nil|refine FitsSl.any ?_|refine FitsSl.cons (Fit1.int (by first | rfl | omega)) ?_|refine FitsSl.cons (Fit1.bool rfl) ?_|refine FitsSl.cons (Fit1.same (by intro h; cases h) (by with_reducible rfl)) ?_)
      (intro k hk; intro K hK; (conv=>whnf); refine hK _ _ ?_; clear hK K)
      by_cases hkl : k < Tc.inj l
      · have hx : ta[k]? = some (ta[k]'(by omega)) := List.getElem?_eq_getElem (by omega)
        have hy : tb[k]? = some (tb[k]'(by omega)) := List.getElem?_eq_getElem (by omega)
        obtain ⟨A1, cap1, hr1, c0, c1, c2, c3, c4, c5, c6, c7⟩ := hu2'.get hx
        have hs1 := hsh.2 _ (List.mem_of_getElem? hx)
        have hs2 := hsh2.2 _ (List.mem_of_getElem? hy)
        have hxe := hext k _ hx
        rw [hy] at hxe
        have hcu := Tc.sub_one hu2' hx
        have hcv := Tc.sub_one hu4 hy
        generalize ta[k]'(by omega) = x at *
        generalize tb[k]'(by omega) = y at *
        have cS := refsame41_c G4 [x] [y] _ _ hcu hcv (by simp) (by simp) (fun c hc => by rw [List.mem_singleton.1 hc]; omega) (fun c hc => by rw [List.mem_singleton.1 hc]; omega)
        by_cases hc : x.id ≠ e.u ∨ x.end_ ≠ 0
        · have e1 : y = x := by simpa using hxe hc
          rw [e1, decide_eq_true rfl] at cS
          (repeat' (first|(with_reducible first|(refine hK _ _ ?_;clear hK K)|(refine hA ?_;clear hA hB A B)|(refine hB ?_;clear hA hB A B)|(refine hK _ ?_;clear hK K))|((with_reducible refine gO ?_);(first|((with_reducible refine z25 ?_);intro K hK;(conv=>whnf))|(with_reducible refine z0 ?_)))|((first|((with_reducible refine gV ?_);(((with_reducible refine NV.i64 ?s ?_);case s=>omega)))|((with_reducible refine gI ?_);(first|with_reducible refine NIf.not_ ?_|((with_reducible refine NIf.decY ?s ?_);case s=>first|assumption|omega)|((with_reducible refine NIf.decN ?s ?_);case s=>first|assumption|omega)|((with_reducible refine NIf.yes ?s ?_);case s=>rfl)|(with_reducible refine NIf.dec (fun _=>?_) (fun _=>?_))))|(with_reducible refine gN ?_;first|refine NN.cast ?_|refine NN.a5 ?_|refine NN.a6 ?_|refine NN.keep ?_)|((with_reducible refine gH ?_;refine NH.mk ?s ?_);case s=>(and_intros<;>first|((with_reducible refine gKept ?_);exact rfl)|omega|rfl))|((with_reducible refine gC ?_;refine NCall.isF 8 ?_);refine NCall.subE [0] (cS) rfl (by decide) rfl rfl ?_)|(with_reducible refine NLd.of (by with_reducible assumption) ?_))<;>(conv=>whnf))|(with_reducible refine gNRK ?_;refine st_ordSout ?_)|((with_reducible refine gNOK ?_);(first|(refine st_ordK1 rfl (by kernel_rfl) rfl ?_; intro K hK; (conv=>whnf))|(refine st_ordK1g rfl (by kernel_rfl) rfl ?_; intro K hK; (conv=>whnf))|(refine st_ordK0 rfl (by kernel_rfl) ?_)|(refine st_ordKA rfl rfl (by kernel_rfl) (by intro h; cases h) ?_)))|((with_reducible refine gNEK ?_);(first|(refine st_eachKg rfl ?_ ?_; (intro K hK; (conv=>whnf)))|exact st_eachK0))|((with_reducible refine gX ?_);(first|(refine st_orderS [] rfl rfl (by kernel_rfl) _ rfl ?_)|(with_reducible first|refine z3 ?_|refine z4 ?_|refine z5 ?_|refine z6 ?_)|((with_reducible refine z29 ?_);intro A B hA hB;(conv=>whnf))))|(with_reducible first|refine z1 ?_|refine z2 ?_|refine z9 ?_)))
          all_goals first | (exfalso; omega) | refine st_round (k + 1) hkl (by omega) ?_ (MemFits.eq rfl)
          all_goals repeat (first|exact FitsSl.nil|refine FitsSl.any ?_|refine FitsSl.cons (Fit1.int (by first | rfl | omega)) ?_|refine FitsSl.cons (Fit1.bool rfl) ?_|refine FitsSl.cons (Fit1.same (by intro h; cases h) (by with_reducible rfl)) ?_)
        · (repeat' (first|(with_reducible first|(refine hK _ _ ?_;clear hK K)|(refine hA ?_;clear hA hB A B)|(refine hB ?_;clear hA hB A B)|(refine hK _ ?_;clear hK K))|((with_reducible refine gO ?_);(first|((with_reducible refine z25 ?_);intro K hK;(conv=>whnf))|(with_reducible refine z0 ?_)))|((first|((with_reducible refine gV ?_);(((with_reducible refine NV.i64 ?s ?_);case s=>omega)))|((with_reducible refine gI ?_);(first|with_reducible refine NIf.not_ ?_|((with_reducible refine NIf.decY ?s ?_);case s=>omega)|((with_reducible refine NIf.no ?s ?_);case s=>rfl)))|(with_reducible refine gN ?_;first|refine NN.cast ?_|refine NN.a5 ?_|refine NN.a6 ?_|refine NN.keep ?_)|((with_reducible refine gH ?_;refine NH.mk ?s ?_);case s=>(and_intros<;>first|omega|rfl))|(with_reducible refine NLd.of (by with_reducible assumption) ?_))<;>(conv=>whnf))|(with_reducible refine gNRK ?_;refine st_ordSout ?_)|((with_reducible refine gNOK ?_);(first|(refine st_ordK1 rfl (by kernel_rfl) rfl ?_; intro K hK; (conv=>whnf))|(refine st_ordK1g rfl (by kernel_rfl) rfl ?_; intro K hK; (conv=>whnf))|(refine st_ordK0 rfl (by kernel_rfl) ?_)|(refine st_ordKA rfl rfl (by kernel_rfl) (by intro h; cases h) ?_)))|((with_reducible refine gNEK ?_);(first|(refine st_eachKg rfl ?_ ?_; (intro K hK; (conv=>whnf)))|exact st_eachK0))|((with_reducible refine gX ?_);(first|(refine st_orderS [] rfl rfl (by kernel_rfl) _ rfl ?_)|(with_reducible first|refine z3 ?_|refine z4 ?_|refine z5 ?_|refine z6 ?_)|((with_reducible refine z29 ?_);intro A B hA hB;(conv=>whnf))))|(with_reducible first|refine z1 ?_|refine z2 ?_|refine z9 ?_)))
          all_goals first | (exfalso; omega) | refine st_round (k + 1) hkl (by omega) ?_ (MemFits.eq rfl)
          all_goals repeat (first|exact FitsSl.nil|refine FitsSl.any ?_|refine FitsSl.cons (Fit1.int (by first | rfl | omega)) ?_|refine FitsSl.cons (Fit1.bool rfl) ?_|refine FitsSl.cons (Fit1.same (by intro h; cases h) (by with_reducible rfl)) ?_)
      · (repeat' (first|(with_reducible first|(refine hK _ _ ?_;clear hK K)|(refine hB ?_;clear hA hB A B)|(refine hK _ ?_;clear hK K))|((with_reducible refine gO ?_);(first|((with_reducible refine z25 ?_);intro K hK;(conv=>whnf))|(with_reducible refine z0 ?_)))|((first|((with_reducible refine gI ?_);(((with_reducible refine NIf.decN ?s ?_);case s=>omega)))|((with_reducible refine gC ?_;refine NCall.isF 5 ?_);refine NCall.subE [0] (ca G4 hle5) rfl (by decide) rfl rfl ?_))<;>(conv=>whnf))|((with_reducible refine gX ?_);(first|(with_reducible first|refine z3 ?_|refine z4 ?_|refine z7 ?_|refine z8 ?_)|((with_reducible refine z29 ?_);intro A B hA hB;(conv=>whnf))))|(with_reducible first|refine z1 ?_|refine z2 ?_|refine z10 ?_|refine z11 ?_|refine z19 ?_)|((with_reducible refine gR ?_);((refine z31 rfl ?_);intro K hK;(conv=>whnf)))))
        all_goals rfl
  · (repeat' (first|(with_reducible first|(refine hK _ _ ?_;clear hK K)|(refine hA ?_;clear hA hB A B)|(refine hK _ ?_;clear hK K))|((with_reducible refine gO ?_);(first|((with_reducible refine z25 ?_);intro K hK;(conv=>whnf))|(with_reducible refine z0 ?_)))|((first|((with_reducible refine gI ?_);(((with_reducible refine NIf.decY ?s ?_);case s=>omega)))|((with_reducible refine gH ?_;refine NH.mk ?s ?_);case s=>(and_intros<;>omega))|((with_reducible refine gC ?_;refine NCall.isF 5 ?_);refine NCall.subE [0] (ca F F.le_refl) rfl (by decide) rfl rfl ?_))<;>(conv=>whnf))|((with_reducible refine gX ?_);(first|(with_reducible first|refine z3 ?_|refine z4 ?_|refine z8 ?_)|((with_reducible refine z29 ?_);intro A B hA hB;(conv=>whnf))))|(with_reducible first|refine z1 ?_|refine z2 ?_|refine z12 ?_)|((with_reducible refine gR ?_);((refine z31 rfl ?_);intro K hK;(conv=>whnf)))|((with_reducible refine gF ?_);((refine z33 rfl ?_);intro K hK;(conv=>whnf)))|((intro _;skip)<;>(conv=>whnf))))
    all_goals first | rfl | (exfalso; omega)
end Go.Proofs.YtniahabpedamcaaDoor
