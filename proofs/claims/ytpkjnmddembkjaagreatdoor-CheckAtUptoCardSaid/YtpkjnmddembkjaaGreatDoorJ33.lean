/-
  Conditions: their text, by the program; The chapter's example of what a policy is at a switch.
-/
import Derived.Test.YtpkjnmddembkjaaGreatDoorJ32
import Derived.Test.YtpkjnmddembkjaaGreatDoorJ29
import Derived.Test.YtpkjnmddembkjaaGreatDoorJ31
import Derived.Test.YtpkjnmddembkjaaGreatDoorJ12
namespace Go.Proofs.YtpkjnmddembkjaaGreatDoor
open Go.Sx
set_option maxRecDepth 20000
set_option linter.unusedSimpArgs false
set_option linter.unusedVariables false
set_option maxHeartbeats 4000000
set_option linter.unusedVariables false
theorem words26_c : NCall Tryz.prog 108 [] [] fun r _ => r = .agg [.str [115, 114, 99], .str [100, 115, 116], .str [107, 105, 110, 100], .str [116, 97, 103], .str [112, 111, 114, 116], .str [115, 119, 105, 116, 99, 104]] := by
  refine ncall_of Tryz.func108 rfl (by decide) ?_
  (repeat' (first|(with_reducible first|(refine hK _ _ ?_;clear hK K)|(refine hK _ ?_;clear hK K))|((with_reducible refine gO ?_);(first|((with_reducible refine z25 ?_);intro K hK;(conv=>whnf))|(with_reducible refine z0 ?_)))|((((with_reducible refine gH ?_);((with_reducible refine NH.mk ?s ?_);case s=>(and_intros<;>first|with_reducible rfl|((with_reducible refine gOnes ?_);rfl)|((with_reducible refine gLen ?_);rfl)))))<;>(conv=>whnf))|((with_reducible refine gX ?_);((with_reducible first|refine z3 ?_|refine z4 ?_|refine z8 ?_)))|(with_reducible first|refine z1 ?_|refine z2 ?_)|((with_reducible refine gR ?_);((refine z31 rfl ?_);intro K hK;(conv=>whnf)))|((with_reducible refine gF ?_);((refine z33 rfl ?_);intro K hK;(conv=>whnf)))|((intro _;skip)<;>(conv=>whnf))))
  all_goals rfl
theorem inner26_of (F : Heap) (k f v : Int) (l : List Pd.T) (u : Value) (s : List UInt8) (hok : SlOk u l.length) (hs : s.length ≤ 4611686018427387904) (h : NCall Tryz.prog 74 [.agg (Pd.cs (.mk k f v l) u)] [hpB F] fun r m => r = .str s ∧ m = [hpB F]) :
    NCall Tryz.prog 109 [.agg [.int .i64 k, .int .i64 f, .int .i64 v, .hs u l.length]] [hpB F] fun r m => r = .str (Pd.innerT k s) ∧ m = [hpB F] := by
  refine NCall.fits (K := fun r m => r = .str (Pd.innerT k s) ∧ MemFits m [hpB F]) ?_ fun r m' h => ⟨r, _, rfl, h.2, h.1, rfl⟩
  rw [pd_cs] at h
  unfold Pd.innerT
  refine ncall_of Tryz.func109 rfl (by decide) ?_
  by_cases hk : k = 5 ∨ k = 6
  · rw [if_pos hk]
    rcases hk with rfl | rfl
    · (repeat' (first|(with_reducible first|(refine hK _ _ ?_;clear hK K)|(refine hA ?_;clear hA hB A B)|(refine hK _ ?_;clear hK K))|((with_reducible refine gO ?_);(first|((with_reducible first|refine z25 ?_|refine z26 ?_);intro K hK;(conv=>whnf))|(with_reducible refine z0 ?_)))|((first|((with_reducible refine gI ?_);(first|((with_reducible refine NIf.decY ?s ?_);case s=>with_reducible rfl)|((with_reducible refine NIf.yes ?s ?_);case s=>rfl)))|((with_reducible refine gN ?_);(with_reducible refine NN.a5 ?_))|((with_reducible refine gH ?_);((with_reducible refine NH.mk ?s ?_);case s=>(and_intros<;>first|with_reducible rfl|(simp only [List.length_append, List.length_cons, List.length_nil]; omega))))|((with_reducible refine gC ?_);((with_reducible refine NCall.isF 74 ?_);refine NCall.subE [0] (h) rfl (by decide) rfl rfl ?_))|(with_reducible refine NS.keep ?_))<;>(conv=>whnf))|((with_reducible refine gX ?_);(first|(with_reducible first|refine z3 ?_|refine z4 ?_|refine z8 ?_)|((with_reducible refine z29 ?_);intro A B hA hB;(conv=>whnf))))|(with_reducible first|refine z1 ?_|refine z2 ?_|refine z12 ?_)|((with_reducible refine gR ?_);((refine z31 rfl ?_);intro K hK;(conv=>whnf)))|((with_reducible refine gF ?_);((refine z33 rfl ?_);intro K hK;(conv=>whnf)))|((intro _;skip)<;>(conv=>whnf))))
      all_goals exact ⟨rfl, MemFits.pre 1 rfl⟩
    · (repeat' (first|(with_reducible first|(refine hK _ _ ?_;clear hK K)|(refine hA ?_;clear hA hB A B)|(refine hK _ ?_;clear hK K))|((with_reducible refine gO ?_);(first|((with_reducible first|refine z25 ?_|refine z26 ?_);intro K hK;(conv=>whnf))|(with_reducible refine z0 ?_)))|((first|((with_reducible refine gI ?_);(first|((with_reducible refine NIf.decY ?s ?_);case s=>with_reducible rfl)|((with_reducible refine NIf.decN ?s ?_);case s=>omega)))|((with_reducible refine gN ?_);(with_reducible refine NN.a5 ?_))|((with_reducible refine gH ?_);((with_reducible refine NH.mk ?s ?_);case s=>(and_intros<;>first|with_reducible rfl|(simp only [List.length_append, List.length_cons, List.length_nil]; omega))))|((with_reducible refine gC ?_);((with_reducible refine NCall.isF 74 ?_);refine NCall.subE [0] (h) rfl (by decide) rfl rfl ?_))|(with_reducible refine NS.keep ?_))<;>(conv=>whnf))|((with_reducible refine gX ?_);(first|(with_reducible first|refine z3 ?_|refine z4 ?_|refine z8 ?_)|((with_reducible refine z29 ?_);intro A B hA hB;(conv=>whnf))))|(with_reducible first|refine z1 ?_|refine z2 ?_|refine z12 ?_)|((with_reducible refine gR ?_);((refine z31 rfl ?_);intro K hK;(conv=>whnf)))|((with_reducible refine gF ?_);((refine z33 rfl ?_);intro K hK;(conv=>whnf)))|((intro _;skip)<;>(conv=>whnf))))
      all_goals exact ⟨rfl, MemFits.pre 1 rfl⟩
  · rw [if_neg hk]
    (repeat' (first|(with_reducible first|(refine hK _ _ ?_;clear hK K)|(refine hB ?_;clear hA hB A B)|(refine hK _ ?_;clear hK K))|((with_reducible refine gO ?_);(first|((with_reducible first|refine z25 ?_|refine z26 ?_);intro K hK;(conv=>whnf))|(with_reducible refine z0 ?_)))|((first|((with_reducible refine gI ?_);(((with_reducible refine NIf.decN ?s ?_);case s=>omega)))|((with_reducible refine gN ?_);(with_reducible refine NN.a5 ?_))|((with_reducible refine gH ?_);((with_reducible refine NH.mk ?s ?_);case s=>(and_intros<;>with_reducible rfl)))|((with_reducible refine gC ?_);((with_reducible refine NCall.isF 74 ?_);refine NCall.subE [0] (h) rfl (by decide) rfl rfl ?_)))<;>(conv=>whnf))|((with_reducible refine gX ?_);(first|(with_reducible first|refine z3 ?_|refine z4 ?_|refine z6 ?_|refine z8 ?_)|((with_reducible refine z29 ?_);intro A B hA hB;(conv=>whnf))))|(with_reducible first|refine z1 ?_|refine z2 ?_)|((with_reducible refine gR ?_);((refine z31 rfl ?_);intro K hK;(conv=>whnf)))|((with_reducible refine gF ?_);((refine z33 rfl ?_);intro K hK;(conv=>whnf)))|((intro _;skip)<;>(conv=>whnf))))
    all_goals first
      | exact ⟨rfl, MemFits.pre 1 rfl⟩
      | (exfalso; omega)
theorem text26_3 (F : Heap) (hF : TabF F) (f v : Int) (u : Value) (hok : SlOk u 0) (hf : 0 ≤ f ∧ f ≤ 5) (hv : 0 ≤ v ∧ v ≤ 255) :
    NCall Tryz.prog 74 [.agg [.int .i64 3, .int .i64 f, .int .i64 v, .hs u 0]] [hpB F] fun r m => r = .str (Pd.word f ++ ([32, 61, 32] ++ Lib.itoa v)) ∧ MemFits m [hpB F] := by
  have ci := itoa_c F hF v (by omega)
  have hln := Lib.itoa_length_le v (by omega) (by omega)
  generalize Lib.itoa v = s at *
  have : f = 0 ∨ f = 1 ∨ f = 2 ∨ f = 3 ∨ f = 4 ∨ f = 5 := by omega
  refine ncall_of Tryz.func74 rfl (by decide) ?_
  rcases this with rfl | rfl | rfl | rfl | rfl | rfl
  all_goals (repeat' (first|(with_reducible first|(refine hK _ _ ?_;clear hK K)|(refine hA ?_;clear hA hB A B)|(refine hB ?_;clear hA hB A B)|(refine hK _ ?_;clear hK K))|((with_reducible refine gO ?_);(first|((with_reducible refine z25 ?_);intro K hK;(conv=>whnf))|(with_reducible refine z0 ?_)))|((first|((with_reducible refine gV ?_);((with_reducible refine NV.keep ?_)))|((with_reducible refine gI ?_);(first|((with_reducible refine NIf.decY ?s ?_);case s=>with_reducible rfl)|((with_reducible refine NIf.decN ?s ?_);case s=>omega)))|((with_reducible refine gN ?_);(with_reducible first|refine NN.a2 ?_|refine NN.a5 ?_|refine NN.keep ?_))|((with_reducible refine gH ?_);((with_reducible refine NH.mk ?s ?_);case s=>(and_intros<;>first|with_reducible rfl|((with_reducible refine gKept ?_);exact rfl)|omega|exact Nat.le_of_ble_eq_true rfl|(simp only [List.length_append, List.length_cons, List.length_nil]; omega)|rfl)))|((with_reducible refine gC ?_);(first|((with_reducible refine NCall.isF 108 ?_);refine NCall.pureE (words26_c) ?_)|((with_reducible refine NCall.isF 72 ?_);refine NCall.subE [0] (ci) rfl (by decide) rfl rfl ?_)))|(with_reducible refine NS.keep ?_))<;>(conv=>whnf))|((with_reducible refine gNRK ?_);((with_reducible refine st_ordSout ?_)))|((with_reducible refine gNOK ?_);(first|(refine st_ordK1 rfl (by kernel_rfl) rfl ?_; intro K hK; (conv=>whnf))|(refine st_ordK0 rfl (by kernel_rfl) ?_)|(refine st_ordKA rfl rfl (by kernel_rfl) (by intro h; cases h) ?_)))|((with_reducible refine gNEK ?_);(first|(refine st_eachK ?_ ?_; (intro K hK; (conv=>whnf)))|exact st_eachK0))|((with_reducible refine gX ?_);(first|(refine st_orderS [] rfl rfl (by kernel_rfl) _ rfl ?_)|(with_reducible first|refine z3 ?_|refine z4 ?_|refine z5 ?_|refine z8 ?_)|((with_reducible refine z29 ?_);intro A B hA hB;(conv=>whnf))))|(with_reducible first|refine z1 ?_|refine z2 ?_|refine z12 ?_|refine z13 ?_)|((with_reducible refine gR ?_);((refine z31 rfl ?_);intro K hK;(conv=>whnf)))|((with_reducible refine gF ?_);((refine z33 rfl ?_);intro K hK;(conv=>whnf)))|((intro _;skip)<;>(conv=>whnf))))
  all_goals exact ⟨by simp [Pd.word], MemFits.pre 1 rfl⟩
theorem text26_c (F : Heap) (hF : TabF F) : ∀ (n : Nat) (p : Pd.T) (u : Value), Pd.size p ≤ n → Pd.size p ≤ 1000000000 → Pd.fits p = true → Pd.Row F u p.l →
    NCall Tryz.prog 74 [.agg (Pd.cs p u)] [hpB F] fun r m => r = .str (Pd.text p) ∧ m = [hpB F]
  | 0, p, u, hn, _, _, _ => absurd (Pd.size_pos p) (by omega)
  | n + 1, ⟨k, f, v, l⟩, u, hn, hs, hf, hu => by
    refine NCall.fits (K := fun r m => r = .str (Pd.text (.mk k f v l)) ∧ MemFits m [hpB F]) ?_ fun r m' h => ⟨r, _, rfl, h.2, h.1, rfl⟩
    have hu : Pd.Row F u l := hu
    have hok := hu.ok
    have htl := Pd.text_len _ hf
    obtain ⟨hsh, hfl⟩ := Pd.fits_mk hf
    have e2 := Pd.size_mk k f v l
    have hll := Pd.length_le l
    have htop := Pd.top_lt f
    rw [pd_cs]
    by_cases h3 : k = 3
    · subst h3
      have hl0 : l = [] := List.length_eq_zero_iff.1 (by omega)
      subst hl0
      have := text26_3 F hF f v u hok (by omega) (by omega)
      rw [Pd.text]
      exact this
    by_cases h1 : k = 1
    · subst h1
      rw [Pd.text]
      refine ncall_of Tryz.func74 rfl (by decide) ?_
      (repeat' (first|(with_reducible first|(refine hK _ _ ?_;clear hK K)|(refine hA ?_;clear hA hB A B)|(refine hK _ ?_;clear hK K))|((with_reducible refine gO ?_);(first|((with_reducible refine z25 ?_);intro K hK;(conv=>whnf))|(with_reducible refine z0 ?_)))|((first|((with_reducible refine gI ?_);(((with_reducible refine NIf.decY ?s ?_);case s=>with_reducible rfl)))|((with_reducible refine gN ?_);(with_reducible refine NN.a5 ?_))|((with_reducible refine gH ?_);((with_reducible refine NH.mk ?s ?_);case s=>(and_intros<;>with_reducible rfl))))<;>(conv=>whnf))|((with_reducible refine gX ?_);(first|(with_reducible first|refine z3 ?_|refine z4 ?_|refine z5 ?_|refine z8 ?_)|((with_reducible refine z29 ?_);intro A B hA hB;(conv=>whnf))))|(with_reducible first|refine z1 ?_|refine z2 ?_|refine z12 ?_|refine z13 ?_)|((with_reducible refine gR ?_);((refine z31 rfl ?_);intro K hK;(conv=>whnf)))|((with_reducible refine gF ?_);((refine z33 rfl ?_);intro K hK;(conv=>whnf)))|((intro _;skip)<;>(conv=>whnf))))
      all_goals exact ⟨rfl, MemFits.pre 1 rfl⟩
    by_cases h2 : k = 2
    · subst h2
      rw [Pd.text]
      refine ncall_of Tryz.func74 rfl (by decide) ?_
      (repeat' (first|(with_reducible first|(refine hK _ _ ?_;clear hK K)|(refine hA ?_;clear hA hB A B)|(refine hB ?_;clear hA hB A B)|(refine hK _ ?_;clear hK K))|((with_reducible refine gO ?_);(first|((with_reducible refine z25 ?_);intro K hK;(conv=>whnf))|(with_reducible refine z0 ?_)))|((first|((with_reducible refine gI ?_);(first|((with_reducible refine NIf.decY ?s ?_);case s=>with_reducible rfl)|((with_reducible refine NIf.decN ?s ?_);case s=>assumption)))|((with_reducible refine gN ?_);(with_reducible refine NN.a5 ?_))|((with_reducible refine gH ?_);((with_reducible refine NH.mk ?s ?_);case s=>(and_intros<;>with_reducible rfl))))<;>(conv=>whnf))|((with_reducible refine gX ?_);(first|(with_reducible first|refine z3 ?_|refine z4 ?_|refine z5 ?_|refine z8 ?_)|((with_reducible refine z29 ?_);intro A B hA hB;(conv=>whnf))))|(with_reducible first|refine z1 ?_|refine z2 ?_|refine z12 ?_|refine z13 ?_)|((with_reducible refine gR ?_);((refine z31 rfl ?_);intro K hK;(conv=>whnf)))|((with_reducible refine gF ?_);((refine z33 rfl ?_);intro K hK;(conv=>whnf)))|((intro _;skip)<;>(conv=>whnf))))
      all_goals exact ⟨rfl, MemFits.pre 1 rfl⟩
    have hpl := Pd.parts_len l
    have ci : ∀ x ∈ l, ∀ A, Pd.Row F A x.l → NCall Tryz.prog 109 [.agg (Pd.cs x A)] [hpB F] fun r m => r = .str (Pd.innerT x.k (Pd.text x)) ∧ m = [hpB F] := fun x hx A hA => by
      have hlt := Pd.size_lt (k := k) (f := f) (v := v) hx
      have := text26_c F hF n x A (by omega) (by omega) (hfl x hx) hA
      have hxl := Pd.text_len x (hfl x hx)
      obtain ⟨xk, xf, xv, xl⟩ := x
      exact inner26_of F xk xf xv xl A _ hA.ok (by omega) this
    have hsum := Pd.parts_sum l (by rw [Pd.fitsL_iff]; exact hfl)
    have hj0 := Nat.le_trans (Pd.join_le [] (Pd.parts l)) (Pd.sum_le (a := ([] : List UInt8).length) (b := 5) _ (by simp))
    have hj5 := Nat.le_trans (Pd.join_le [32, 97, 110, 100, 32] (Pd.parts l)) (Pd.sum_le (a := ([32, 97, 110, 100, 32] : List UInt8).length) (b := 5) _ (by simp))
    have hj6 := Nat.le_trans (Pd.join_le [32, 111, 114, 32] (Pd.parts l)) (Pd.sum_le (a := ([32, 111, 114, 32] : List UInt8).length) (b := 5) _ (by simp))
    have hT : Pd.text (.mk k f v l) = if k = 4 then [110, 111, 116, 32] ++ Lib.join (Pd.parts l) [] else Lib.join (Pd.parts l) (Pd.sepOf k) := by rw [Pd.text, if_neg h1, if_neg h2, if_neg h3]
    rw [hT]
    refine ncall_of Tryz.func74 rfl (by decide) ?_
    (repeat' (first|(with_reducible first|(refine hK _ _ ?_;clear hK K)|(refine hB ?_;clear hA hB A B)|(refine hK _ ?_;clear hK K))|((with_reducible refine gO ?_);(first|((with_reducible refine z25 ?_);intro K hK;(conv=>whnf))|(with_reducible refine z0 ?_)))|((first|((with_reducible refine gI ?_);(((with_reducible refine NIf.decN ?s ?_);case s=>assumption)))|((with_reducible refine gN ?_);(with_reducible refine NN.a5 ?_))|((with_reducible refine gH ?_);((with_reducible refine NH.mk ?s ?_);case s=>(and_intros<;>first|with_reducible rfl|omega))))<;>(conv=>whnf))|((with_reducible refine gX ?_);(first|(with_reducible first|refine z3 ?_|refine z4 ?_|refine z5 ?_|refine z6 ?_)|((with_reducible refine z29 ?_);intro A B hA hB;(conv=>whnf))))|(with_reducible first|refine z1 ?_|refine z2 ?_|refine z9 ?_)|((with_reducible refine gF ?_);((refine z33 rfl ?_);intro K hK;(conv=>whnf)))|((intro _;skip)<;>(conv=>whnf))))
    refine st_auto (α := Value × Nat) (fun (w, i) => i ≤ l.length) (fun (w, i) => [.keep, .keep, .keep, .set (.sl 2 w i), .keep, .drop, .keep, .keep, .keep, .keep, .keep, .keep, .keep, .keep, .keep, .keep, .keep, .keep, .keep, .keep, .keep, .keep, .keep, .keep, .keep, .keep, .keep, .keep, .set (.int .i64 i), .drop, .drop, .drop, .drop, .drop, .drop, .drop, .drop, .drop, .keep, .keep, .keep, .keep, .keep, .keep, .keep, .keep, .keep, .keep, .keep, .keep, .keep]) (fun (w, i) => [.keep, .keep, .set ⟨addrOf w, strAV (Pd.parts (l.take i)), .row w 9 1 i⟩]) (fun (w, i) => l.length - i) (.slice none 0 0, 0) (Nat.zero_le _) ?_ ((MemFits.nilRow _ 9 1).trans (MemFits.congr rfl)) ?_
    · repeat (first | exact FitsSl.nil | refine FitsSl.any ?_ | refine FitsSl.cons (Fit1.int (by first | rfl | omega)) ?_ | refine FitsSl.cons (Fit1.bool rfl) ?_ | refine FitsSl.cons (Fit1.str rfl) ?_ | refine FitsSl.cons (Fit1.same (by intro h; cases h) (by with_reducible rfl)) ?_ | refine FitsSl.cons Fit1.nil_sl ?_ | refine FitsSl.cons (Fit1.hs rfl) ?_ | refine FitsSl.cons (Fit1.hp rfl rfl) ?_ | refine FitsSl.cons (Fit1.sl rfl) ?_ | refine FitsSl.cons (Fit1.ptr rfl rfl) ?_ | refine FitsSl.cons Fit1.raw ?_)
    (intro ⟨w, i⟩ hi; intro K hK; (conv=>whnf); refine hK _ _ ?_; clear hK K)
    dsimp only
    have hi : i ≤ l.length := hi
    by_cases hlt : i < l.length
    · have hx : l[i]? = some l[i] := List.getElem?_eq_getElem hlt
      obtain ⟨A, cap, hA, c0, c1, c2, c3⟩ := hu.get hx
      have c := ci _ (List.mem_of_getElem? hx) _ hA
      have hnx := Pd.parts_take hlt
      have hpi := Pd.parts_len (l.take i)
      rw [List.length_take, Nat.min_eq_left hi] at hpi
      have hav := strAV_len (Pd.parts (l.take i))
      rw [hpi] at hav
      have hav2 : strAV (Pd.parts (l.take (i + 1))) = strAV (Pd.parts (l.take i)) ++ [.str (Pd.innerT l[i].k (Pd.text l[i]))] := by rw [hnx]; unfold strAV; rw [List.map_append]; rfl
      clear ci hT hj0 hj5 hj6 hsum hnx
      generalize Pd.innerT l[i].k (Pd.text l[i]) = y at *
      generalize l[i] = x at *
      generalize strAV (Pd.parts (l.take i)) = B at *
      obtain ⟨xk, xf, xv, xl⟩ := x
      simp only [Pd.cs, Pd.T.k, Pd.T.f, Pd.T.v, Pd.T.l] at c c0 c1 c2 c3 hA
      (repeat' (first|(with_reducible first|(refine hK _ _ ?_;clear hK K)|(refine hA ?_;clear hA hB A B))|((with_reducible refine gO ?_);(first|((with_reducible refine z25 ?_);intro K hK;(conv=>whnf))|(with_reducible refine z0 ?_)))|((first|((with_reducible refine gV ?_);(((with_reducible refine NV.i64 ?s ?_);case s=>omega)))|((with_reducible refine gI ?_);(((with_reducible refine NIf.decY ?s ?_);case s=>omega)))|((with_reducible refine gN ?_);(with_reducible first|refine NN.cast ?_|refine NN.keep ?_))|((with_reducible refine gH ?_);((with_reducible refine NH.mk ?s ?_);case s=>(and_intros<;>first|with_reducible rfl|((with_reducible refine gOnes ?_);rfl)|((with_reducible refine gLen ?_);rfl)|omega)))|((with_reducible refine gC ?_);((with_reducible refine NCall.isF 109 ?_);refine NCall.subE [0] (c) rfl (by decide) rfl rfl ?_))|(with_reducible refine NLd.of (by with_reducible assumption) ?_))<;>(conv=>whnf))|((with_reducible refine gX ?_);(first|(with_reducible first|refine z3 ?_|refine z4 ?_|refine z5 ?_|refine z6 ?_)|((with_reducible refine z29 ?_);intro A B hA hB;(conv=>whnf))))|(with_reducible first|refine z1 ?_|refine z2 ?_|refine z9 ?_)|((intro _;skip)<;>(conv=>whnf))))
      all_goals
        rename_i v9
        refine st_round (v9, i + 1) hlt (by show l.length - (i + 1) < l.length - i; omega) ?_ (MemFits.pre 3 ?_)
        · dsimp only
          repeat (first | exact FitsSl.nil | refine FitsSl.any ?_ | refine FitsSl.cons (Fit1.int (by first | rfl | omega)) ?_ | refine FitsSl.cons (Fit1.bool rfl) ?_ | refine FitsSl.cons (Fit1.str rfl) ?_ | refine FitsSl.cons (Fit1.same (by intro h; cases h) (by with_reducible rfl)) ?_ | refine FitsSl.cons Fit1.nil_sl ?_ | refine FitsSl.cons (Fit1.hs rfl) ?_ | refine FitsSl.cons (Fit1.hp rfl rfl) ?_ | refine FitsSl.cons (Fit1.sl rfl) ?_ | refine FitsSl.cons (Fit1.ptr rfl rfl) ?_ | refine FitsSl.cons Fit1.raw ?_)
        · simp only [autoM, List.take, hav2]
          rfl
    · have hkl : i = l.length := by omega
      subst hkl
      rw [List.take_length]
      clear ci
      have hjo := fun m sep hm h1 => join_own F w (Pd.parts l) sep 9 m hm h1 (by omega) 2
      rw [hpl] at hjo
      by_cases h4 : k = 4
      · subst h4
        rw [if_pos rfl]
        (repeat' (first|(with_reducible first|(refine hK _ _ ?_;clear hK K)|(refine hA ?_;clear hA hB A B)|(refine hB ?_;clear hA hB A B)|(refine hK _ ?_;clear hK K))|((with_reducible refine gO ?_);(first|((with_reducible refine z25 ?_);intro K hK;(conv=>whnf))|(with_reducible refine z0 ?_)))|((first|((with_reducible refine gI ?_);(first|((with_reducible refine NIf.decY ?s ?_);case s=>with_reducible rfl)|((with_reducible refine NIf.decN ?s ?_);case s=>omega)))|((with_reducible refine gN ?_);(with_reducible refine NN.a5 ?_))|((with_reducible refine gH ?_);((with_reducible refine NH.mk ?s ?_);case s=>(and_intros<;>first|with_reducible rfl|(simp only [List.length_append, List.length_cons, List.length_nil]; omega))))|(with_reducible refine NS.keep ?_))<;>(conv=>whnf))|((with_reducible refine NCall.isF 73 ?_); (refine (hjo _ [] (MemFits.pick (m' := [hpB F, _]) [0, 2] (by decide) rfl) (by omega)).mono ?_; rintro _ _ ⟨rfl, rfl⟩; (conv=>whnf)))|((with_reducible refine gX ?_);(first|(with_reducible first|refine z3 ?_|refine z4 ?_|refine z5 ?_|refine z7 ?_|refine z8 ?_)|((with_reducible refine z29 ?_);intro A B hA hB;(conv=>whnf))))|(with_reducible first|refine z1 ?_|refine z2 ?_|refine z10 ?_|refine z11 ?_|refine z12 ?_|refine z13 ?_|refine z19 ?_)|((with_reducible refine gR ?_);((refine z31 rfl ?_);intro K hK;(conv=>whnf)))))
        all_goals exact ⟨rfl, MemFits.pre 1 rfl⟩
      rw [if_neg h4]
      by_cases h5 : k = 5
      · subst h5
        (repeat' (first|(with_reducible first|(refine hK _ _ ?_;clear hK K)|(refine hA ?_;clear hA hB A B)|(refine hB ?_;clear hA hB A B)|(refine hK _ ?_;clear hK K))|((with_reducible refine gO ?_);(first|((with_reducible refine z25 ?_);intro K hK;(conv=>whnf))|(with_reducible refine z0 ?_)))|((first|((with_reducible refine gI ?_);(first|((with_reducible refine NIf.decY ?s ?_);case s=>with_reducible rfl)|((with_reducible refine NIf.decN ?s ?_);case s=>first|assumption|omega)))|((with_reducible refine gN ?_);(with_reducible refine NN.a5 ?_))|((with_reducible refine gH ?_);((with_reducible refine NH.mk ?s ?_);case s=>(and_intros<;>with_reducible rfl))))<;>(conv=>whnf))|((with_reducible refine NCall.isF 73 ?_); (refine (hjo _ [32, 97, 110, 100, 32] (MemFits.pick (m' := [hpB F, _]) [0, 2] (by decide) rfl) (by omega)).mono ?_; rintro _ _ ⟨rfl, rfl⟩; (conv=>whnf)))|((with_reducible refine gX ?_);(first|(with_reducible first|refine z3 ?_|refine z4 ?_|refine z5 ?_|refine z7 ?_|refine z8 ?_)|((with_reducible refine z29 ?_);intro A B hA hB;(conv=>whnf))))|(with_reducible first|refine z1 ?_|refine z2 ?_|refine z10 ?_|refine z11 ?_|refine z12 ?_|refine z13 ?_|refine z19 ?_)|((with_reducible refine gR ?_);((refine z31 rfl ?_);intro K hK;(conv=>whnf)))))
        all_goals exact ⟨rfl, MemFits.pre 1 rfl⟩
      have h6 : k = 6 := by omega
      subst h6
      (repeat' (first|(with_reducible first|(refine hK _ _ ?_;clear hK K)|(refine hB ?_;clear hA hB A B)|(refine hK _ ?_;clear hK K))|((with_reducible refine gO ?_);(first|((with_reducible refine z25 ?_);intro K hK;(conv=>whnf))|(with_reducible refine z0 ?_)))|((first|((with_reducible refine gI ?_);(((with_reducible refine NIf.decN ?s ?_);case s=>first|assumption|omega)))|((with_reducible refine gN ?_);(with_reducible refine NN.a5 ?_))|((with_reducible refine gH ?_);((with_reducible refine NH.mk ?s ?_);case s=>(and_intros<;>with_reducible rfl))))<;>(conv=>whnf))|((with_reducible refine NCall.isF 73 ?_); (refine (hjo _ [32, 111, 114, 32] (MemFits.pick (m' := [hpB F, _]) [0, 2] (by decide) rfl) (by omega)).mono ?_; rintro _ _ ⟨rfl, rfl⟩; (conv=>whnf)))|((with_reducible refine gX ?_);(first|(with_reducible first|refine z3 ?_|refine z4 ?_|refine z5 ?_|refine z6 ?_|refine z7 ?_|refine z8 ?_)|((with_reducible refine z29 ?_);intro A B hA hB;(conv=>whnf))))|(with_reducible first|refine z1 ?_|refine z2 ?_|refine z9 ?_|refine z10 ?_|refine z11 ?_|refine z19 ?_)|((with_reducible refine gR ?_);((refine z31 rfl ?_);intro K hK;(conv=>whnf)))))
      all_goals exact ⟨rfl, MemFits.pre 1 rfl⟩
end Go.Proofs.YtpkjnmddembkjaaGreatDoor
namespace Go.Proofs.YtpkjnmddembkjaaGreatDoor
open Go.Sx
set_option maxRecDepth 20000
set_option linter.unusedSimpArgs false
set_option linter.unusedVariables false
set_option maxHeartbeats 4000000
set_option linter.unusedVariables false
namespace Po
def filterT (p : Pd.T) : List UInt8 := if p.k = 1 then [105, 100] else if p.k = 2 then [100, 114, 111, 112] else [119, 104, 101, 110, 32] ++ Pd.text p
def exP : Pd.T := .mk 5 0 0 [.mk 3 5 2 [], .mk 3 1 1 []]
def exX : T := .mk 1 exP 0 0 []
theorem ex_fits : fits exX = true := by decide +kernel
theorem ex_right : right exX = true := by decide +kernel
theorem ex_tot : tot exX = 4 := by decide +kernel
theorem same_eq' {a b : T} (h : same a b = true) : a = b := (same_eq a b).1 h
theorem ex_spec2 : spec 2 exX = .mk 1 (.mk 3 1 1 []) 0 0 [] := same_eq' (by decide +kernel)
theorem ex_spec1 : spec 1 exX = .mk 1 (.mk 2 0 0 []) 0 0 [] := same_eq' (by decide +kernel)
theorem ex_text2 : filterT (.mk 3 1 1 []) = [119, 104, 101, 110, 32, 100, 115, 116, 32, 61, 32, 49] := by decide +kernel
theorem ex_text1 : filterT (.mk 2 0 0 []) = [100, 114, 111, 112] := by decide +kernel
theorem values_nil {f : Int} {x : T} (h : vals f x = []) : values f x = [] := by
  unfold values; rw [h, List.mergeSort_nil]; rfl
theorem values_single {f : Int} {x : T} {v : Int} (h : vals f x = [v]) : values f x = [v] := by
  unfold values; rw [h, List.mergeSort_singleton]; rfl
end Po
theorem Pd.pvalues_nil {f : Int} {x : Pd.T} (h : Pd.vals f x = []) : Pd.values f x = [] := by
  unfold Pd.values; rw [h, List.mergeSort_nil]; rfl
theorem Pd.pvalues_single {f : Int} {x : Pd.T} {v : Int} (h : Pd.vals f x = [v]) : Pd.values f x = [v] := by
  unfold Pd.values; rw [h, List.mergeSort_singleton]; rfl
namespace Po
theorem ex_vals (f : Int) : vals f exX = Pd.values f exP := by
  show (if (1 : Int) = 2 ∧ (0 : Int) = f then [(0 : Int)] else []) ++ Pd.values f exP ++ [] = _
  rw [if_neg (by omega)]; simp
theorem ex_v0 (f : Int) (h : Pd.vals f exP = []) : values f exX = [] := values_nil (by rw [ex_vals, Pd.pvalues_nil h])
theorem ex_v1 (f v : Int) (h : Pd.vals f exP = [v]) : values f exX = [v] := values_single (by rw [ex_vals, Pd.pvalues_single h])
theorem ex_cells : cells exX = 2 := by
  unfold cells
  rw [cellsN, cellsN, cellsN, cellsN, cellsN, cellsN]
  rw [ex_v0 ((0 : Nat) : Int) (by decide +kernel), ex_v1 ((1 : Nat) : Int) 1 (by decide +kernel), ex_v0 ((2 : Nat) : Int) (by decide +kernel), ex_v0 ((3 : Nat) : Int) (by decide +kernel), ex_v0 ((4 : Nat) : Int) (by decide +kernel)]
  rfl
theorem ex_check3 : check true ⟨3, [], []⟩ exX = 0 := by
  unfold check
  rw [ex_right, ex_cells, ex_v0 4 (by decide +kernel), ex_v1 5 2 (by decide +kernel)]
  rfl
theorem ex_check2 : check true ⟨2, [], []⟩ exX = 13 := by
  unfold check
  rw [ex_right, ex_cells, ex_v0 4 (by decide +kernel), ex_v1 5 2 (by decide +kernel)]
  rfl
end Po
theorem filter27_c (F : Heap) (hT : TabF F) (p : Pd.T) (u : Value) (hs : Pd.size p ≤ 1000000000) (hf : Pd.fits p = true) (hu : Pd.Row F u p.l) : NCall Tryz.prog 71 [.agg (Pd.cs p u)] [hpB F] fun r m => r = .str (Po.filterT p) ∧ m = [hpB F] := by
  refine NCall.fits (K := fun r m => r = .str (Po.filterT p) ∧ MemFits m [hpB F]) ?_ fun r m' h => ⟨r, _, rfl, h.2, h.1, rfl⟩
  have ct := text26_c F hT _ p u (Nat.le_refl _) hs hf hu
  have htl := Pd.text_len p hf
  generalize Pd.size p = ns at *
  have hok := hu.ok
  have e1 : p.k = 1 → Po.filterT p = [105, 100] := fun h => by unfold Po.filterT; rw [if_pos h]
  have e2 : ¬ p.k = 1 → p.k = 2 → Po.filterT p = [100, 114, 111, 112] := fun h h2 => by unfold Po.filterT; rw [if_neg h, if_pos h2]
  have e3 : ¬ p.k = 1 → ¬ p.k = 2 → Po.filterT p = [119, 104, 101, 110, 32] ++ Pd.text p := fun h h2 => by unfold Po.filterT; rw [if_neg h, if_neg h2]
  generalize Pd.text p = s at *
  generalize Po.filterT p = X at *
  obtain ⟨k, f, v, l⟩ := p
  simp only [pd_cs, Pd.T.k, Pd.T.l] at *
  refine ncall_of Tryz.func71 rfl (by decide) ?_
  by_cases h1 : k = 1
  · subst h1
    rw [e1 rfl]
    (repeat' (first|(with_reducible first|(refine hK _ _ ?_;clear hK K)|(refine hA ?_;clear hA hB A B)|(refine hK _ ?_;clear hK K))|((with_reducible refine gO ?_);(first|((with_reducible refine z25 ?_);intro K hK;(conv=>whnf))|(with_reducible refine z0 ?_)))|((first|((with_reducible refine gI ?_);(((with_reducible refine NIf.decY ?s ?_);case s=>with_reducible rfl)))|((with_reducible refine gN ?_);(with_reducible refine NN.a5 ?_))|((with_reducible refine gH ?_);((with_reducible refine NH.mk ?s ?_);case s=>(and_intros<;>with_reducible rfl))))<;>(conv=>whnf))|((with_reducible refine gX ?_);(first|(with_reducible first|refine z3 ?_|refine z4 ?_|refine z5 ?_|refine z8 ?_)|((with_reducible refine z29 ?_);intro A B hA hB;(conv=>whnf))))|(with_reducible first|refine z1 ?_|refine z2 ?_|refine z12 ?_|refine z13 ?_)|((with_reducible refine gR ?_);((refine z31 rfl ?_);intro K hK;(conv=>whnf)))|((with_reducible refine gF ?_);((refine z33 rfl ?_);intro K hK;(conv=>whnf)))|((intro _;skip)<;>(conv=>whnf))))
    all_goals exact ⟨rfl, MemFits.pre 1 rfl⟩
  by_cases h2 : k = 2
  · subst h2
    rw [e2 h1 rfl]
    (repeat' (first|(with_reducible first|(refine hK _ _ ?_;clear hK K)|(refine hA ?_;clear hA hB A B)|(refine hB ?_;clear hA hB A B)|(refine hK _ ?_;clear hK K))|((with_reducible refine gO ?_);(first|((with_reducible refine z25 ?_);intro K hK;(conv=>whnf))|(with_reducible refine z0 ?_)))|((first|((with_reducible refine gI ?_);(first|((with_reducible refine NIf.decY ?s ?_);case s=>with_reducible rfl)|((with_reducible refine NIf.decN ?s ?_);case s=>assumption)))|((with_reducible refine gN ?_);(with_reducible refine NN.a5 ?_))|((with_reducible refine gH ?_);((with_reducible refine NH.mk ?s ?_);case s=>(and_intros<;>with_reducible rfl))))<;>(conv=>whnf))|((with_reducible refine gX ?_);(first|(with_reducible first|refine z3 ?_|refine z4 ?_|refine z5 ?_|refine z8 ?_)|((with_reducible refine z29 ?_);intro A B hA hB;(conv=>whnf))))|(with_reducible first|refine z1 ?_|refine z2 ?_|refine z12 ?_|refine z13 ?_)|((with_reducible refine gR ?_);((refine z31 rfl ?_);intro K hK;(conv=>whnf)))|((with_reducible refine gF ?_);((refine z33 rfl ?_);intro K hK;(conv=>whnf)))|((intro _;skip)<;>(conv=>whnf))))
    all_goals exact ⟨rfl, MemFits.pre 1 rfl⟩
  rw [e3 h1 h2]
  (repeat' (first|(with_reducible first|(refine hK _ _ ?_;clear hK K)|(refine hB ?_;clear hA hB A B)|(refine hK _ ?_;clear hK K))|((with_reducible refine gO ?_);(first|((with_reducible refine z25 ?_);intro K hK;(conv=>whnf))|(with_reducible refine z0 ?_)))|((first|((with_reducible refine gI ?_);(((with_reducible refine NIf.decN ?s ?_);case s=>assumption)))|((with_reducible refine gN ?_);(with_reducible refine NN.a5 ?_))|((with_reducible refine gH ?_);((with_reducible refine NH.mk ?s ?_);case s=>(and_intros<;>first|with_reducible rfl|(simp only [List.length_append, List.length_cons, List.length_nil]; omega))))|((with_reducible refine gC ?_);((with_reducible refine NCall.isF 74 ?_);refine NCall.subE [0] (ct) rfl (by decide) rfl rfl ?_))|(with_reducible refine NS.keep ?_))<;>(conv=>whnf))|((with_reducible refine gX ?_);(first|(with_reducible first|refine z3 ?_|refine z4 ?_|refine z5 ?_|refine z6 ?_|refine z8 ?_)|((with_reducible refine z29 ?_);intro A B hA hB;(conv=>whnf))))|(with_reducible first|refine z1 ?_|refine z2 ?_|refine z9 ?_)|((with_reducible refine gR ?_);((refine z31 rfl ?_);intro K hK;(conv=>whnf)))|((with_reducible refine gF ?_);((refine z33 rfl ?_);intro K hK;(conv=>whnf)))|((intro _;skip)<;>(conv=>whnf))))
  all_goals exact ⟨rfl, MemFits.pre 1 rfl⟩
theorem textF27_c (F : Heap) (hT : TabF F) (p : Pd.T) (pu u : Value) (hs : Pd.size p ≤ 1000000000) (hf : Pd.fits p = true) (hx : Po.At F (.mk 1 p 0 0 []) pu u) : NCall Tryz.prog 34 [.agg (Po.cs (.mk 1 p 0 0 []) pu u)] [hpB F] fun r m => r = .str (Po.filterT p) ∧ m = [hpB F] := by
  refine NCall.fits (K := fun r m => r = .str (Po.filterT p) ∧ MemFits m [hpB F]) ?_ fun r m' h => ⟨r, _, rfl, h.2, h.1, rfl⟩
  have cf := filter27_c F hT p pu hs hf hx.p
  have hok : SlOk u 0 := hx.l.ok
  have hpok : SlOk pu p.l.length := hx.p.ok
  generalize Po.filterT p = X at *
  rw [po_cs]
  obtain ⟨k, f, v, l⟩ := p
  simp only [pd_cs, Pd.T.k, Pd.T.f, Pd.T.v, Pd.T.l, List.length_nil] at *
  refine ncall_of Tryz.func34 rfl (by decide) ?_
  (repeat' (first|(with_reducible first|(refine hK _ _ ?_;clear hK K)|(refine hA ?_;clear hA hB A B)|(refine hB ?_;clear hA hB A B)|(refine hK _ ?_;clear hK K))|((with_reducible refine gO ?_);(first|((with_reducible refine z25 ?_);intro K hK;(conv=>whnf))|(with_reducible refine z0 ?_)))|((first|((with_reducible refine gI ?_);(first|((with_reducible refine NIf.decY ?s ?_);case s=>with_reducible rfl)|((with_reducible refine NIf.decN ?s ?_);case s=>omega)))|((with_reducible refine gN ?_);(with_reducible refine NN.a5 ?_))|((with_reducible refine gH ?_);((with_reducible refine NH.mk ?s ?_);case s=>(and_intros<;>first|with_reducible rfl|omega)))|((with_reducible refine gC ?_);((with_reducible refine NCall.isF 71 ?_);refine NCall.subE [0] (cf) rfl (by decide) rfl rfl ?_)))<;>(conv=>whnf))|((with_reducible refine gX ?_);(first|(with_reducible refine st_rounds 1 ?_)|(with_reducible first|refine z3 ?_|refine z4 ?_|refine z5 ?_|refine z7 ?_|refine z8 ?_)|((with_reducible refine z29 ?_);intro A B hA hB;(conv=>whnf))))|(with_reducible first|refine z1 ?_|refine z2 ?_|refine z10 ?_|refine z11 ?_|refine z12 ?_|refine z13 ?_|refine z22 ?_)|((with_reducible refine gR ?_);((refine z31 rfl ?_);intro K hK;(conv=>whnf)))|((with_reducible refine gF ?_);((refine z33 rfl ?_);intro K hK;(conv=>whnf)))|((intro _;skip)<;>(conv=>whnf))))
  all_goals exact ⟨rfl, MemFits.pre 1 rfl⟩
theorem places0_c (n : Int) : NCall Tryz.prog 75 [.agg [.int .i64 n, .hs (.slice none 0 0) 0, .hs (.slice none 0 0) 0]] [] fun r _ => r = .raw (.slice none 0 0) := by
  have hok : SlOk (.slice none 0 0) 0 := SlOk.nil
  refine ncall_of Tryz.func75 rfl (by decide) ?_
  (repeat' (first|(with_reducible first|(refine hK _ _ ?_;clear hK K)|(refine hB ?_;clear hA hB A B)|(refine hK _ ?_;clear hK K))|((with_reducible refine gO ?_);(first|((with_reducible refine z25 ?_);intro K hK;(conv=>whnf))|(with_reducible refine z0 ?_)))|((first|((with_reducible refine gI ?_);(((with_reducible refine NIf.decN ?s ?_);case s=>omega)))|((with_reducible refine gN ?_);(with_reducible refine NN.a5 ?_))|((with_reducible refine gH ?_);((with_reducible refine NH.mk ?s ?_);case s=>(and_intros<;>first|with_reducible rfl|omega))))<;>(conv=>whnf))|((with_reducible refine gX ?_);(first|(with_reducible refine st_rounds 1 ?_)|(with_reducible first|refine z3 ?_|refine z4 ?_|refine z5 ?_|refine z7 ?_|refine z8 ?_)|((with_reducible refine z29 ?_);intro A B hA hB;(conv=>whnf))))|(with_reducible first|refine z1 ?_|refine z2 ?_|refine z10 ?_|refine z11 ?_|refine z22 ?_)|((with_reducible refine gR ?_);((refine z31 rfl ?_);intro K hK;(conv=>whnf)))|((with_reducible refine gF ?_);((refine z33 rfl ?_);intro K hK;(conv=>whnf)))|((intro _;skip)<;>(conv=>whnf))))
  all_goals rfl
theorem topo0_c (F : Heap) (n : Int) (hn : 1 ≤ n ∧ n ≤ 8) : NCall Tryz.prog 35 [.agg (Tp.cs ⟨n, [], []⟩ (.slice none 0 0) (.slice none 0 0))] [hpB F] fun r m => r = .bool true ∧ m = [hpB F] := by
  refine NCall.fits (K := fun r m => r = .bool true ∧ MemFits m [hpB F]) ?_ fun r m' h => ⟨r, _, rfl, h.2, h.1, rfl⟩
  have cp := places0_c n
  have hok : SlOk (.slice none 0 0) 0 := SlOk.nil
  unfold Tp.cs
  simp only [List.length_nil]
  refine ncall_of Tryz.func35 rfl (by decide) ?_
  (repeat' (first|(with_reducible first|(refine hK _ _ ?_;clear hK K)|(refine hB ?_;clear hA hB A B)|(refine hK _ ?_;clear hK K))|((with_reducible refine gO ?_);(first|((with_reducible first|refine z25 ?_|refine z26 ?_);intro K hK;(conv=>whnf))|(with_reducible refine z0 ?_)))|((first|((with_reducible refine gI ?_);(((with_reducible refine NIf.decN ?s ?_);case s=>omega)))|((with_reducible refine gN ?_);(with_reducible refine NN.a5 ?_))|((with_reducible refine gH ?_);((with_reducible refine NH.mk ?s ?_);case s=>(and_intros<;>first|with_reducible rfl|omega)))|((with_reducible refine gC ?_);((with_reducible refine NCall.isF 75 ?_);refine NCall.pureE (cp) ?_)))<;>(conv=>whnf))|(refine NMap.make fun b => ?_; conv=>whnf)|((with_reducible refine gX ?_);(first|(with_reducible refine st_rounds 4 ?_)|(with_reducible first|refine z3 ?_|refine z4 ?_|refine z5 ?_|refine z6 ?_)|((with_reducible refine z29 ?_);intro A B hA hB;(conv=>whnf))))|(with_reducible first|refine z1 ?_|refine z2 ?_)|((with_reducible refine gF ?_);((refine z33 rfl ?_);intro K hK;(conv=>whnf)))|((intro _;skip)<;>(conv=>whnf))))
  refine st_rounds 1 ?_
  (repeat' (first|(with_reducible first|(refine hK _ _ ?_;clear hK K)|(refine hB ?_;clear hA hB A B)|(refine hK _ ?_;clear hK K))|((with_reducible refine gO ?_);(first|((with_reducible refine z25 ?_);intro K hK;(conv=>whnf))|(with_reducible refine z0 ?_)))|((((with_reducible refine gI ?_);(((with_reducible refine NIf.decN ?s ?_);case s=>omega))))<;>(conv=>whnf))|((with_reducible refine gX ?_);(first|(with_reducible first|refine z3 ?_|refine z4 ?_|refine z7 ?_|refine z8 ?_)|((with_reducible refine z29 ?_);intro A B hA hB;(conv=>whnf))))|(with_reducible first|refine z1 ?_|refine z2 ?_|refine z11 ?_|refine z22 ?_)|((with_reducible refine gR ?_);((refine z31 rfl ?_);intro K hK;(conv=>whnf)))))
  all_goals exact ⟨rfl, MemFits.pre 1 rfl⟩
end Go.Proofs.YtpkjnmddembkjaaGreatDoor
