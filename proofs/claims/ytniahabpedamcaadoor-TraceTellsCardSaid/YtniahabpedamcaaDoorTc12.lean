/-
  A trace's text, by the program.
-/
import Derived.Test.YtniahabpedamcaaDoorTc11
import Derived.Test.YtniahabpedamcaaDoorBld
import Derived.Test.YtniahabpedamcaaDoorSxCut
namespace Go.Proofs.YtniahabpedamcaaDoor
open Go.Sx
set_option maxRecDepth 20000
set_option linter.unusedSimpArgs false
set_option linter.unusedVariables false
set_option maxHeartbeats 4000000
set_option linter.unusedVariables false
/-- A block of nothing. -/
def nilB : Blk := ⟨⟨0, 0, none⟩, [], .ro (.slice none 0 0) 0 0⟩
theorem MemFits.nils : MemFits [] [nilB, nilB] := fun w _ => by
  have hh : nilB.holds w := ⟨rfl, none, 0, rfl, Nat.le_refl _, fun _ => rfl, fun h => absurd h (by decide)⟩
  have hf : ∀ b, ¬ nilB.foot b := fun b h => by simp [nilB, Blk.foot, Blk.bn] at h
  refine ⟨⟨fun k hk => ?_, ?_⟩, fun b ⟨k, hk, hw, _⟩ => ?_, fun b ⟨k, hk, hb⟩ => ?_⟩
  · simp only [List.mem_cons, List.not_mem_nil, or_false, or_self] at hk
    rw [hk]; exact hh
  · simp only [List.pairwise_cons, List.mem_singleton, List.not_mem_nil, false_implies, implies_true, List.Pairwise.nil, and_true]
    rintro y rfl _ b h _
    exact hf b h
  · simp only [List.mem_cons, List.not_mem_nil, or_false, or_self] at hk
    subst hk; cases hw
  · simp only [List.mem_cons, List.not_mem_nil, or_false, or_self] at hk
    subst hk; exact (hf b hb).elim
theorem string_c2 (a : Addr) (p : AV) (v : Value) (l : List UInt8) (h0 : l ≠ [] ∨ v = .slice none 0 0) :
    NCall Tryd.prog 21 [.ptr 0 a 0] (bldB a 1 p v l) fun r m => r = .str l ∧ m = [nilB, nilB] :=
  (string_c a p v l h0).fits fun r m ⟨h1, h2⟩ => ⟨r, _, rfl, by rw [h1]; exact MemFits.nils, h2, rfl⟩
theorem bld_new {x y : Blk} {b : Nat} {t : TypeId} : MemFits [x, y, ⟨⟨b, 0, none⟩, [.raw (.pointer none), .raw (.slice none 0 0)], .var t⟩] [x, y, ⟨⟨b, 0, none⟩, [.raw (.pointer none), .sl 1 (.slice none 0 0) 0], .var t⟩, ⟨⟨0, 0, none⟩, [], .row (.slice none 0 0) 5 1 0⟩] :=
  (MemFits.congr (m := [x, y, ⟨⟨b, 0, none⟩, [.raw (.pointer none), .raw (.slice none 0 0)], .var t⟩]) (m' := [x, y, ⟨⟨b, 0, none⟩, [.raw (.pointer none), .sl 1 (.slice none 0 0) 0], .var t⟩]) rfl).trans (MemFits.nilRow [x, y, ⟨⟨b, 0, none⟩, [.raw (.pointer none), .sl 1 (.slice none 0 0) 0], .var t⟩] 5 1)
theorem Tc.head_ne (c : Tc.C) : Tc.head c ≠ [] := by unfold Tc.head; simp
theorem text41_c (F : Heap) (hF : TabF F) (c : Tc.C) (v : Value) (hv : Tc.IRow F v c.sws) (hl : c.sws.length ≤ 1000) (hc : c.In) : NCall Tryd.prog 13 [.agg (Tc.cs c v)] [hpB F] fun r m => r = .str (Tc.txt c) ∧ m = [hpB F] := by
  refine NCall.fits (K := fun r m => r = .str (Tc.txt c) ∧ MemFits m [hpB F]) ?_ fun r m' h => ⟨r, _, rfl, h.2, h.1, rfl⟩
  have hok := hv.ok
  have c1 := itoa_c F hF c.id hc.id
  have c2 := itoa_c F hF c.fr hc.fr
  have c3 := itoa_c F hF c.to hc.to
  have c4 := itoa_c F hF c.at_ hc.at_
  have c5 := itoa_c F hF c.host hc.host
  have c6 := itoa_c F hF c.last hc.last
  have l1 := Tc.itoa_len hc.id
  have l2 := Tc.itoa_len hc.fr
  have l3 := Tc.itoa_len hc.to
  have l4 := Tc.itoa_len hc.at_
  have l5 := Tc.itoa_len hc.host
  have l6 := Tc.itoa_len hc.last
  have hhl := Tc.head_len hc
  have hne := Tc.head_ne c
  have hsw := hc.sws
  have hhd : Tc.head c = Lib.itoa c.id ++ [58, 32] ++ Lib.itoa c.fr ++ [62] ++ Lib.itoa c.to ++ [32, 97, 116, 32] ++ Lib.itoa c.at_ ++ [58] := rfl
  have htx : Tc.txt c = Tc.head c ++ Tc.way c.sws ++ Tc.foot c := rfl
  have hft : Tc.foot c = if c.end_ = 3 then [32, 103, 111, 110, 101, 32] ++ Lib.itoa c.host ++ [32, 97, 116, 32] ++ Lib.itoa c.last else if c.end_ = 4 then [32, 100, 114, 111, 112, 112, 101, 100, 32, 97, 116, 32] ++ Lib.itoa c.last else [32, 111, 110, 32, 105, 116, 115, 32, 119, 97, 121] := rfl
  obtain ⟨id, fr, to, at_, sws, end_, host, last⟩ := c
  dsimp only at *
  refine ncall_of Tryd.func13 rfl (by decide) ?_
  unfold Tc.cs
  dsimp only
  generalize Tc.head _ = hd at *
  generalize Tc.txt _ = tx at *
  generalize Tc.foot _ = ft at *
  generalize Lib.itoa id = s1 at *
  generalize Lib.itoa fr = s2 at *
  generalize Lib.itoa to = s3 at *
  generalize Lib.itoa at_ = s4 at *
  generalize Lib.itoa host = s5 at *
  generalize Lib.itoa last = s6 at *
  (repeat' (first|(with_reducible first|(refine hK _ _ ?_;clear hK K)|(refine hK _ ?_;clear hK K))|((with_reducible refine gO ?_);(first|((with_reducible refine z25 ?_);intro K hK;(conv=>whnf))|(with_reducible refine z0 ?_)))|(with_reducible refine gX ?_;first|refine z3 ?_|refine z4 ?_)|(with_reducible first|refine z1 ?_|refine z2 ?_)|((with_reducible refine gF ?_);((refine z33 rfl ?_);intro K hK;(conv=>whnf)))|((intro _;skip)<;>(conv=>whnf))))
  rename_i b1 b2
  have w1 := write_c ⟨b2, 0, none⟩ (.raw (.pointer none)) (.slice none 0 0) [] hd (.inl rfl) (by simp only [List.length_nil]; omega)
  rw [hhd] at w1
  refine st_drawFits (m' := [hpB F, _, ⟨⟨b2, 0, none⟩, [.raw (.pointer none), .sl 1 (.slice none 0 0) 0], .var 55⟩, ⟨⟨0, 0, none⟩, [], .row (.slice none 0 0) 5 1 0⟩]) (FitsSl.refl _) bld_new ?_
  refine st_drawCut (α := Value) (fun _ => True) (fun _ => List.replicate 72 .keep) (fun v' => [.keep, .keep, .set ⟨⟨b2, 0, none⟩, [.ptr 0 ⟨b2, 0, none⟩ 0, .sl 1 v' hd.length], .var 55⟩, .set ⟨addrOf v', Bld.bytesAV hd, .row v' 5 1 hd.length⟩]) ?_ ?_
  · (repeat' (first|(with_reducible first|(refine hK _ _ ?_;clear hK K)|(refine hK _ ?_;clear hK K))|((first|(with_reducible refine gN ?_;refine NN.a5 ?_)|((with_reducible refine gH ?_;refine NH.mk ?s ?_);case s=>(and_intros<;>first|((with_reducible refine gKept ?_);exact rfl)|(simp only [List.length_append, List.length_cons, List.length_nil]; omega)|rfl))|((with_reducible refine gC ?_);(first|((with_reducible refine NCall.isF 19 ?_);refine NCall.subE [0] (c1) rfl (by decide) rfl rfl ?_)|((with_reducible refine NCall.isF 19 ?_);refine NCall.subE [0] (c2) rfl (by decide) rfl rfl ?_)|((with_reducible refine NCall.isF 19 ?_);refine NCall.subE [0] (c3) rfl (by decide) rfl rfl ?_)|((with_reducible refine NCall.isF 19 ?_);refine NCall.subE [0] (c4) rfl (by decide) rfl rfl ?_)|((with_reducible refine NCall.isF 20 ?_);refine NCall.subw [2, 3] _ _ (w1) rfl (by decide) rfl ?_; rintro _ _ ⟨v2, rfl, rfl⟩; refine ⟨Nat.le_of_ble_eq_true rfl, _, rfl, ?_⟩)))|(with_reducible refine NS.keep ?_))<;>(conv=>whnf))|(with_reducible refine gNRK ?_;refine st_ordSout ?_)|((with_reducible refine gNOK ?_);(first|(refine st_ordK1 rfl (by kernel_rfl) rfl ?_; intro K hK; (conv=>whnf))|(refine st_ordK0 rfl (by kernel_rfl) ?_)|(refine st_ordKA rfl rfl (by kernel_rfl) (by intro h; cases h) ?_)))|((with_reducible refine gNEK ?_);(first|(refine st_eachK ?_ ?_; (intro K hK; (conv=>whnf)))|exact st_eachK0))|((with_reducible refine gX ?_);((refine st_orderS [2, 3] rfl rfl (by kernel_rfl) _ rfl ?_)))|(with_reducible refine z1 ?_)))
    all_goals
      refine cut_done v2 trivial ?_ (MemFits.eq (by rw [hhd]; rfl))
      repeat (first|exact FitsSl.nil|refine FitsSl.any ?_|refine FitsSl.cons (Fit1.str rfl) ?_|refine FitsSl.cons (Fit1.same (by intro h; cases h) (by with_reducible rfl)) ?_)
  (intro v2 hv2; intro K hK; (conv=>whnf); refine hK _ _ ?_; clear hK K)
  clear w1
  (repeat' (first|(with_reducible (refine hK _ _ ?_;clear hK K))|((with_reducible refine gO ?_);(first|((with_reducible refine z25 ?_);intro K hK;(conv=>whnf))|(with_reducible refine z0 ?_)))|((first|(with_reducible refine gN ?_;refine NN.a5 ?_)|((with_reducible refine gH ?_;refine NH.mk ?s ?_);case s=>(and_intros<;>first|with_reducible rfl|omega)))<;>(conv=>whnf))|(with_reducible refine gX ?_;first|refine z3 ?_|refine z4 ?_|refine z5 ?_)|(with_reducible first|refine z1 ?_|refine z2 ?_)))
  refine st_auto (α := Nat × Value) (fun x => x.1 ≤ sws.length) (fun x => [.keep, .keep, .keep, .keep, .keep, .keep, .drop, .keep, .keep, .keep, .keep, .keep, .keep, .keep, .keep, .keep, .keep, .keep, .keep, .keep, .keep, .keep, .keep, .keep, .keep, .keep, .keep, .keep, .keep, .keep, .keep, .keep, .keep, .keep, .set (.int .i64 x.1), .drop, .drop, .drop, .drop, .drop, .drop, .drop, .drop, .drop, .keep, .keep, .keep, .keep, .keep, .keep, .keep, .keep, .keep, .keep, .keep, .keep, .keep, .keep, .keep, .keep, .keep, .keep, .keep, .keep, .keep, .keep, .keep, .keep, .keep, .keep, .keep, .keep]) (fun x => [.keep, .keep, .set ⟨⟨b2, 0, none⟩, [.ptr 0 ⟨b2, 0, none⟩ 0, .sl 1 x.2 (hd ++ Tc.way (sws.take x.1)).length], .var 55⟩, .set ⟨addrOf x.2, Bld.bytesAV (hd ++ Tc.way (sws.take x.1)), .row x.2 5 1 (hd ++ Tc.way (sws.take x.1)).length⟩]) (fun x => sws.length - x.1) (0, v2) (Nat.zero_le _) ?_ (MemFits.eq (by simp [autoM, Tc.way])) ?_
  · repeat (first|exact FitsSl.nil|refine FitsSl.any ?_|refine FitsSl.cons (Fit1.int (by first | rfl | omega)) ?_|refine FitsSl.cons (Fit1.str rfl) ?_|refine FitsSl.cons (Fit1.same (by intro h; cases h) (by with_reducible rfl)) ?_)
  (intro ⟨i, u⟩ hi; intro K hK; (conv=>whnf); refine hK _ _ ?_; clear hK K)
  dsimp only at hi ⊢
  have hwl := Tc.way_len (l := sws.take i) (fun z hz => hsw z (List.mem_of_mem_take hz))
  rw [List.length_take, Nat.min_eq_left hi] at hwl
  by_cases hlt : i < sws.length
  · have hx : sws[i]? = some sws[i] := List.getElem?_eq_getElem hlt
    have g0 := hv.get hx
    have hz := hsw _ (List.getElem_mem hlt)
    have hnx : hd ++ Tc.way (sws.take (i + 1)) = hd ++ Tc.way (sws.take i) ++ ([32] ++ Lib.itoa sws[i]) := by rw [List.take_add_one, hx, Option.toList_some, Tc.way_next]; simp only [List.append_assoc]
    have cz := itoa_c F hF _ hz
    have lz := Tc.itoa_len hz
    generalize sws[i] = z at *
    have hal : (hd ++ Tc.way (sws.take i)).length ≤ 100 + 22000 := by rw [List.length_append]; omega
    generalize hd ++ Tc.way (sws.take i) = wy at *
    generalize Lib.itoa z = sz at *
    have wr := write_c ⟨b2, 0, none⟩ (.ptr 0 ⟨b2, 0, none⟩ 0) u wy ([32] ++ sz) (.inr rfl) (by simp only [List.length_append, List.length_cons, List.length_nil]; omega)
    (repeat' (first|(with_reducible first|(refine hK _ _ ?_;clear hK K)|(refine hA ?_;clear hA hB A B))|((with_reducible refine gO ?_);(first|((with_reducible refine z25 ?_);intro K hK;(conv=>whnf))|(with_reducible refine z0 ?_)))|((first|((with_reducible refine gV ?_);(((with_reducible refine NV.i64 ?s ?_);case s=>omega)))|((with_reducible refine gI ?_);(((with_reducible refine NIf.decY ?s ?_);case s=>omega)))|(with_reducible refine gN ?_;first|refine NN.cast ?_|refine NN.a2 ?_)|((with_reducible refine gH ?_;refine NH.mk ?s ?_);case s=>(and_intros<;>first|omega|(simp only [List.length_append, List.length_cons, List.length_nil]; omega)))|((with_reducible refine gC ?_);(first|((with_reducible refine NCall.isF 19 ?_);refine NCall.subE [0] (cz) rfl (by decide) rfl rfl ?_)|((with_reducible refine NCall.isF 20 ?_);refine NCall.subw [2, 3] _ _ (wr) rfl (by decide) rfl ?_; rintro _ _ ⟨u2, rfl, rfl⟩; refine ⟨Nat.le_of_ble_eq_true rfl, _, rfl, ?_⟩)))|(with_reducible refine NS.keep ?_)|(with_reducible refine NLd.of (by with_reducible assumption) ?_))<;>(conv=>whnf))|((with_reducible refine gX ?_);(first|(with_reducible first|refine z3 ?_|refine z4 ?_|refine z5 ?_|refine z6 ?_)|((with_reducible refine z29 ?_);intro A B hA hB;(conv=>whnf))))|(with_reducible first|refine z1 ?_|refine z2 ?_|refine z9 ?_)))
    refine st_round (i + 1, u2) hlt (by show sws.length - (i + 1) < sws.length - i; omega) ?_ (MemFits.eq (by simp only [autoM]; rw [hnx]))
    repeat (first|exact FitsSl.nil|refine FitsSl.any ?_|refine FitsSl.cons (Fit1.int (by first | rfl | omega)) ?_|refine FitsSl.cons (Fit1.str rfl) ?_|refine FitsSl.cons (Fit1.same (by intro h; cases h) (by with_reducible rfl)) ?_)
  · have hii : i = sws.length := by omega
    subst hii
    rw [List.take_length] at hwl ⊢
    have hal : (hd ++ Tc.way sws).length ≤ 100 + 22000 := by rw [List.length_append]; omega
    have cst := string_c2 ⟨b2, 0, none⟩ (.ptr 0 ⟨b2, 0, none⟩ 0) u (hd ++ Tc.way sws) (.inl (by simp [hne]))
    generalize hd ++ Tc.way sws = wy at *
    by_cases h3 : end_ = 3
    · rw [if_pos h3] at hft
      (repeat' (first|(with_reducible first|(refine hK _ _ ?_;clear hK K)|(refine hA ?_;clear hA hB A B)|(refine hB ?_;clear hA hB A B)|(refine hK _ ?_;clear hK K))|((with_reducible refine gO ?_);(first|((with_reducible refine z25 ?_);intro K hK;(conv=>whnf))|(with_reducible refine z0 ?_)))|((first|((with_reducible refine gI ?_);(first|((with_reducible refine NIf.decY ?s ?_);case s=>assumption)|((with_reducible refine NIf.decN ?s ?_);case s=>omega)))|(with_reducible refine gN ?_;refine NN.a5 ?_)|((with_reducible refine gH ?_;refine NH.mk ?s ?_);case s=>(and_intros<;>first|with_reducible rfl|((with_reducible refine gKept ?_);exact rfl)|(simp only [List.length_append, List.length_cons, List.length_nil]; omega)|rfl))|((with_reducible refine gC ?_);(first|((with_reducible refine NCall.isF 19 ?_);refine NCall.subE [0] (c5) rfl (by decide) rfl rfl ?_)|((with_reducible refine NCall.isF 19 ?_);refine NCall.subE [0] (c6) rfl (by decide) rfl rfl ?_)|((with_reducible refine NCall.isF 21 ?_);refine NCall.subE [2, 3] (cst) rfl (by decide) rfl rfl ?_)))|(with_reducible refine NS.keep ?_))<;>(conv=>whnf))|(with_reducible refine gNRK ?_;refine st_ordSout ?_)|((with_reducible refine gNOK ?_);(first|(refine st_ordK1 rfl (by kernel_rfl) rfl ?_; intro K hK; (conv=>whnf))|(refine st_ordK0 rfl (by kernel_rfl) ?_)|(refine st_ordKA rfl rfl (by kernel_rfl) (by intro h; cases h) ?_)))|((with_reducible refine gNEK ?_);(first|(refine st_eachK ?_ ?_; (intro K hK; (conv=>whnf)))|exact st_eachK0))|((with_reducible refine gX ?_);(first|(refine st_orderS [2, 3] rfl rfl (by kernel_rfl) _ rfl ?_)|(with_reducible first|refine z3 ?_|refine z4 ?_|refine z5 ?_|refine z7 ?_|refine z8 ?_)|((with_reducible refine z29 ?_);intro A B hA hB;(conv=>whnf))))|(with_reducible first|refine z1 ?_|refine z2 ?_|refine z10 ?_|refine z11 ?_|refine z12 ?_|refine z13 ?_|refine z19 ?_)|((with_reducible refine gR ?_);((refine z31 rfl ?_);intro K hK;(conv=>whnf)))))
      all_goals exact ⟨by rw [htx, hft]; simp only [List.append_assoc], MemFits.pre 1 rfl⟩
    · rw [if_neg h3] at hft
      by_cases h4 : end_ = 4
      · rw [if_pos h4] at hft
        (repeat' (first|(with_reducible first|(refine hK _ _ ?_;clear hK K)|(refine hA ?_;clear hA hB A B)|(refine hB ?_;clear hA hB A B)|(refine hK _ ?_;clear hK K))|((with_reducible refine gO ?_);(first|((with_reducible refine z25 ?_);intro K hK;(conv=>whnf))|(with_reducible refine z0 ?_)))|((first|((with_reducible refine gI ?_);(first|((with_reducible refine NIf.decY ?s ?_);case s=>assumption)|((with_reducible refine NIf.decN ?s ?_);case s=>first|assumption|omega)))|(with_reducible refine gN ?_;refine NN.a5 ?_)|((with_reducible refine gH ?_;refine NH.mk ?s ?_);case s=>(and_intros<;>first|with_reducible rfl|((with_reducible refine gKept ?_);exact rfl)|(simp only [List.length_append, List.length_cons, List.length_nil]; omega)|rfl))|((with_reducible refine gC ?_);(first|((with_reducible refine NCall.isF 19 ?_);refine NCall.subE [0] (c6) rfl (by decide) rfl rfl ?_)|((with_reducible refine NCall.isF 21 ?_);refine NCall.subE [2, 3] (cst) rfl (by decide) rfl rfl ?_)))|(with_reducible refine NS.keep ?_))<;>(conv=>whnf))|(with_reducible refine gNRK ?_;refine st_ordSout ?_)|((with_reducible refine gNOK ?_);(first|(refine st_ordK1 rfl (by kernel_rfl) rfl ?_; intro K hK; (conv=>whnf))|(refine st_ordK0 rfl (by kernel_rfl) ?_)|(refine st_ordKA rfl rfl (by kernel_rfl) (by intro h; cases h) ?_)))|((with_reducible refine gNEK ?_);(first|(refine st_eachK ?_ ?_; (intro K hK; (conv=>whnf)))|exact st_eachK0))|((with_reducible refine gX ?_);(first|(refine st_orderS [2, 3] rfl rfl (by kernel_rfl) _ rfl ?_)|(with_reducible first|refine z3 ?_|refine z4 ?_|refine z5 ?_|refine z7 ?_|refine z8 ?_)|((with_reducible refine z29 ?_);intro A B hA hB;(conv=>whnf))))|(with_reducible first|refine z1 ?_|refine z2 ?_|refine z10 ?_|refine z11 ?_|refine z12 ?_|refine z13 ?_|refine z19 ?_)|((with_reducible refine gR ?_);((refine z31 rfl ?_);intro K hK;(conv=>whnf)))))
        all_goals exact ⟨by rw [htx, hft]; simp only [List.append_assoc], MemFits.pre 1 rfl⟩
      · rw [if_neg h4] at hft
        (repeat' (first|(with_reducible first|(refine hK _ _ ?_;clear hK K)|(refine hB ?_;clear hA hB A B)|(refine hK _ ?_;clear hK K))|((with_reducible refine gO ?_);(first|((with_reducible refine z25 ?_);intro K hK;(conv=>whnf))|(with_reducible refine z0 ?_)))|((first|((with_reducible refine gI ?_);(((with_reducible refine NIf.decN ?s ?_);case s=>first|assumption|omega)))|(with_reducible refine gN ?_;refine NN.a5 ?_)|((with_reducible refine gH ?_;refine NH.mk ?s ?_);case s=>(and_intros<;>first|with_reducible rfl|(simp only [List.length_append, List.length_cons, List.length_nil]; omega)))|((with_reducible refine gC ?_;refine NCall.isF 21 ?_);refine NCall.subE [2, 3] (cst) rfl (by decide) rfl rfl ?_)|(with_reducible refine NS.keep ?_))<;>(conv=>whnf))|((with_reducible refine gX ?_);(first|(with_reducible first|refine z3 ?_|refine z4 ?_|refine z5 ?_|refine z6 ?_|refine z7 ?_|refine z8 ?_)|((with_reducible refine z29 ?_);intro A B hA hB;(conv=>whnf))))|(with_reducible first|refine z1 ?_|refine z2 ?_|refine z9 ?_|refine z10 ?_|refine z11 ?_|refine z19 ?_)|((with_reducible refine gR ?_);((refine z31 rfl ?_);intro K hK;(conv=>whnf)))))
        all_goals exact ⟨by rw [htx, hft], MemFits.pre 1 rfl⟩
end Go.Proofs.YtniahabpedamcaaDoor


