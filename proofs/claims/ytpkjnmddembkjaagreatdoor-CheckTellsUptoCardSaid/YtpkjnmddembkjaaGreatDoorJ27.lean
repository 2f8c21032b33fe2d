/-
  The chapter's example of what a policy is at a switch; CheckCuts, walked.
-/
import Derived.Test.YtpkjnmddembkjaaGreatDoorJ18
import Derived.Test.YtpkjnmddembkjaaGreatDoorJ26
import Derived.Test.YtpkjnmddembkjaaGreatDoorJ23
import Derived.Test.YtpkjnmddembkjaaGreatDoorJ14
import Derived.Test.YtpkjnmddembkjaaGreatDoorJ19
import Derived.Test.YtpkjnmddembkjaaGreatDoorJ9
import Derived.Test.YtpkjnmddembkjaaGreatDoorJ10
namespace Go.Proofs.YtpkjnmddembkjaaGreatDoor
open Go.Sx
set_option maxRecDepth 20000
set_option linter.unusedSimpArgs false
set_option linter.unusedVariables false
set_option maxHeartbeats 4000000
set_option linter.unusedVariables false
namespace Po
def filterT (p : Pd.T) : List UInt8 := if p.k = 1 then [105, 100] else if p.k = 2 then [100, 114, 111, 112] else [119, 104, 101, 110, 32] ++ Pd.text p
def exP : Pd.T := .mk 5 0 0 [.mk 3 5 2 [], .mk 3 1 1 []]
def exX : T := .mk 1 exP 0 0 []
theorem ex_fits : fits exX = true := by decide +kernel
theorem ex_right : right exX = true := by decide +kernel
theorem ex_tot : tot exX = 4 := by decide +kernel
theorem same_eq' {a b : T} (h : same a b = true) : a = b := (same_eq a b).1 h
theorem ex_spec2 : spec 2 exX = .mk 1 (.mk 3 1 1 []) 0 0 [] := same_eq' (by decide +kernel)
theorem ex_spec1 : spec 1 exX = .mk 1 (.mk 2 0 0 []) 0 0 [] := same_eq' (by decide +kernel)
theorem ex_text2 : filterT (.mk 3 1 1 []) = [119, 104, 101, 110, 32, 100, 115, 116, 32, 61, 32, 49] := by decide +kernel
theorem ex_text1 : filterT (.mk 2 0 0 []) = [100, 114, 111, 112] := by decide +kernel
theorem values_nil {f : Int} {x : T} (h : vals f x = []) : values f x = [] := by
  unfold values; rw [h, List.mergeSort_nil]; rfl
theorem values_single {f : Int} {x : T} {v : Int} (h : vals f x = [v]) : values f x = [v] := by
  unfold values; rw [h, List.mergeSort_singleton]; rfl
end Po
theorem Pd.pvalues_nil {f : Int} {x : Pd.T} (h : Pd.vals f x = []) : Pd.values f x = [] := by
  unfold Pd.values; rw [h, List.mergeSort_nil]; rfl
theorem Pd.pvalues_single {f : Int} {x : Pd.T} {v : Int} (h : Pd.vals f x = [v]) : Pd.values f x = [v] := by
  unfold Pd.values; rw [h, List.mergeSort_singleton]; rfl
namespace Po
theorem ex_vals (f : Int) : vals f exX = Pd.values f exP := by
  show (if (1 : Int) = 2 ∧ (0 : Int) = f then [(0 : Int)] else []) ++ Pd.values f exP ++ [] = _
  rw [if_neg (by omega)]; simp
theorem ex_v0 (f : Int) (h : Pd.vals f exP = []) : values f exX = [] := values_nil (by rw [ex_vals, Pd.pvalues_nil h])
theorem ex_v1 (f v : Int) (h : Pd.vals f exP = [v]) : values f exX = [v] := values_single (by rw [ex_vals, Pd.pvalues_single h])
theorem ex_cells : cells exX = 2 := by
  unfold cells
  rw [cellsN, cellsN, cellsN, cellsN, cellsN, cellsN]
  rw [ex_v0 ((0 : Nat) : Int) (by decide +kernel), ex_v1 ((1 : Nat) : Int) 1 (by decide +kernel), ex_v0 ((2 : Nat) : Int) (by decide +kernel), ex_v0 ((3 : Nat) : Int) (by decide +kernel), ex_v0 ((4 : Nat) : Int) (by decide +kernel)]
  rfl
theorem ex_check3 : check true ⟨3, [], []⟩ exX = 0 := by
  unfold check
  rw [ex_right, ex_cells, ex_v0 4 (by decide +kernel), ex_v1 5 2 (by decide +kernel)]
  rfl
theorem ex_check2 : check true ⟨2, [], []⟩ exX = 13 := by
  unfold check
  rw [ex_right, ex_cells, ex_v0 4 (by decide +kernel), ex_v1 5 2 (by decide +kernel)]
  rfl
end Po
theorem filter27_c (F : Heap) (hT : TabF F) (p : Pd.T) (u : Value) (hs : Pd.size p ≤ 1000000000) (hf : Pd.fits p = true) (hu : Pd.Row F u p.l) : NCall Tryz.prog 71 [.agg (Pd.cs p u)] [hpB F] fun r m => r = .str (Po.filterT p) ∧ m = [hpB F] := by
  refine NCall.fits (K := fun r m => r = .str (Po.filterT p) ∧ MemFits m [hpB F]) ?_ fun r m' h => ⟨r, _, rfl, h.2, h.1, rfl⟩
  have ct := text26_c F hT _ p u (Nat.le_refl _) hs hf hu
  have htl := Pd.text_len p hf
  generalize Pd.size p = ns at *
  have hok := hu.ok
  have e1 : p.k = 1 → Po.filterT p = [105, 100] := fun h => by unfold Po.filterT; rw [if_pos h]
  have e2 : ¬ p.k = 1 → p.k = 2 → Po.filterT p = [100, 114, 111, 112] := fun h h2 => by unfold Po.filterT; rw [if_neg h, if_pos h2]
  have e3 : ¬ p.k = 1 → ¬ p.k = 2 → Po.filterT p = [119, 104, 101, 110, 32] ++ Pd.text p := fun h h2 => by unfold Po.filterT; rw [if_neg h, if_neg h2]
  generalize Pd.text p = s at *
  generalize Po.filterT p = X at *
  obtain ⟨k, f, v, l⟩ := p
  simp only [pd_cs, Pd.T.k, Pd.T.l] at *
  refine ncall_of Tryz.func71 rfl (by decide) ?_
  by_cases h1 : k = 1
  · subst h1
    rw [e1 rfl]
    (repeat' (first|(with_reducible first|(refine hK _ _ ?_;clear hK K)|(refine hA ?_;clear hA hB A B)|(refine hK _ ?_;clear hK K))|((with_reducible refine gO ?_);(first|((with_reducible refine z25 ?_);intro K hK;(conv=>whnf))|(with_reducible refine z0 ?_)))|((first|((with_reducible refine gI ?_);(((with_reducible refine NIf.decY ?s ?_);case s=>with_reducible rfl)))|((with_reducible refine gN ?_);(with_reducible refine NN.a5 ?_))|((with_reducible refine gH ?_);((with_reducible refine NH.mk ?s ?_);case s=>(and_intros<;>with_reducible rfl))))<;>(conv=>whnf))|((with_reducible refine gX ?_);(first|(with_reducible first|refine z3 ?_|refine z4 ?_|refine z5 ?_|refine z8 ?_)|((with_reducible refine z29 ?_);intro A B hA hB;(conv=>whnf))))|(with_reducible first|refine z1 ?_|refine z2 ?_|refine z12 ?_|refine z13 ?_)|((with_reducible refine gR ?_);((refine z31 rfl ?_);intro K hK;(conv=>whnf)))|((with_reducible refine gF ?_);((refine z33 rfl ?_);intro K hK;(conv=>whnf)))|((intro _;skip)<;>(conv=>whnf))))
    all_goals exact ⟨rfl, MemFits.pre 1 rfl⟩
  by_cases h2 : k = 2
  · subst h2
    rw [e2 h1 rfl]
    (repeat' (first|(with_reducible first|(refine hK _ _ ?_;clear hK K)|(refine hA ?_;clear hA hB A B)|(refine hB ?_;clear hA hB A B)|(refine hK _ ?_;clear hK K))|((with_reducible refine gO ?_);(first|((with_reducible refine z25 ?_);intro K hK;(conv=>whnf))|(with_reducible refine z0 ?_)))|((first|((with_reducible refine gI ?_);(first|((with_reducible refine NIf.decY ?s ?_);case s=>with_reducible rfl)|((with_reducible refine NIf.decN ?s ?_);case s=>assumption)))|((with_reducible refine gN ?_);(with_reducible refine NN.a5 ?_))|((with_reducible refine gH ?_);((with_reducible refine NH.mk ?s ?_);case s=>(and_intros<;>with_reducible rfl))))<;>(conv=>whnf))|((with_reducible refine gX ?_);(first|(with_reducible first|refine z3 ?_|refine z4 ?_|refine z5 ?_|refine z8 ?_)|((with_reducible refine z29 ?_);intro A B hA hB;(conv=>whnf))))|(with_reducible first|refine z1 ?_|refine z2 ?_|refine z12 ?_|refine z13 ?_)|((with_reducible refine gR ?_);((refine z31 rfl ?_);intro K hK;(conv=>whnf)))|((with_reducible refine gF ?_);((refine z33 rfl ?_);intro K hK;(conv=>whnf)))|((intro _;skip)<;>(conv=>whnf))))
    all_goals exact ⟨rfl, MemFits.pre 1 rfl⟩
  rw [e3 h1 h2]
  (repeat' (first|(with_reducible first|(refine hK _ _ ?_;clear hK K)|(refine hB ?_;clear hA hB A B)|(refine hK _ ?_;clear hK K))|((with_reducible refine gO ?_);(first|((with_reducible refine z25 ?_);intro K hK;(conv=>whnf))|(with_reducible refine z0 ?_)))|((first|((with_reducible refine gI ?_);(((with_reducible refine NIf.decN ?s ?_);case s=>assumption)))|((with_reducible refine gN ?_);(with_reducible refine NN.a5 ?_))|((with_reducible refine gH ?_);((with_reducible refine NH.mk ?s ?_);case s=>(and_intros<;>first|with_reducible rfl|(simp only [List.length_append, List.length_cons, List.length_nil]; omega))))|((with_reducible refine gC ?_);((with_reducible refine NCall.isF 74 ?_);refine NCall.subE [0] (ct) rfl (by decide) rfl rfl ?_))|(with_reducible refine NS.keep ?_))<;>(conv=>whnf))|((with_reducible refine gX ?_);(first|(with_reducible first|refine z3 ?_|refine z4 ?_|refine z5 ?_|refine z6 ?_|refine z8 ?_)|((with_reducible refine z29 ?_);intro A B hA hB;(conv=>whnf))))|(with_reducible first|refine z1 ?_|refine z2 ?_|refine z9 ?_)|((with_reducible refine gR ?_);((refine z31 rfl ?_);intro K hK;(conv=>whnf)))|((with_reducible refine gF ?_);((refine z33 rfl ?_);intro K hK;(conv=>whnf)))|((intro _;skip)<;>(conv=>whnf))))
  all_goals exact ⟨rfl, MemFits.pre 1 rfl⟩
theorem textF27_c (F : Heap) (hT : TabF F) (p : Pd.T) (pu u : Value) (hs : Pd.size p ≤ 1000000000) (hf : Pd.fits p = true) (hx : Po.At F (.mk 1 p 0 0 []) pu u) : NCall Tryz.prog 34 [.agg (Po.cs (.mk 1 p 0 0 []) pu u)] [hpB F] fun r m => r = .str (Po.filterT p) ∧ m = [hpB F] := by
  refine NCall.fits (K := fun r m => r = .str (Po.filterT p) ∧ MemFits m [hpB F]) ?_ fun r m' h => ⟨r, _, rfl, h.2, h.1, rfl⟩
  have cf := filter27_c F hT p pu hs hf hx.p
  have hok : SlOk u 0 := hx.l.ok
  have hpok : SlOk pu p.l.length := hx.p.ok
  generalize Po.filterT p = X at *
  rw [po_cs]
  obtain ⟨k, f, v, l⟩ := p
  simp only [pd_cs, Pd.T.k, Pd.T.f, Pd.T.v, Pd.T.l, List.length_nil] at *
  refine ncall_of Tryz.func34 rfl (by decide) ?_
  (repeat' (first|(with_reducible first|(refine hK _ _ ?_;clear hK K)|(refine hA ?_;clear hA hB A B)|(refine hB ?_;clear hA hB A B)|(refine hK _ ?_;clear hK K))|((with_reducible refine gO ?_);(first|((with_reducible refine z25 ?_);intro K hK;(conv=>whnf))|(with_reducible refine z0 ?_)))|((first|((with_reducible refine gI ?_);(first|((with_reducible refine NIf.decY ?s ?_);case s=>with_reducible rfl)|((with_reducible refine NIf.decN ?s ?_);case s=>omega)))|((with_reducible refine gN ?_);(with_reducible refine NN.a5 ?_))|((with_reducible refine gH ?_);((with_reducible refine NH.mk ?s ?_);case s=>(and_intros<;>first|with_reducible rfl|omega)))|((with_reducible refine gC ?_);((with_reducible refine NCall.isF 71 ?_);refine NCall.subE [0] (cf) rfl (by decide) rfl rfl ?_)))<;>(conv=>whnf))|((with_reducible refine gX ?_);(first|(with_reducible refine st_rounds 1 ?_)|(with_reducible first|refine z3 ?_|refine z4 ?_|refine z5 ?_|refine z7 ?_|refine z8 ?_)|((with_reducible refine z29 ?_);intro A B hA hB;(conv=>whnf))))|(with_reducible first|refine z1 ?_|refine z2 ?_|refine z10 ?_|refine z11 ?_|refine z12 ?_|refine z13 ?_|refine z22 ?_)|((with_reducible refine gR ?_);((refine z31 rfl ?_);intro K hK;(conv=>whnf)))|((with_reducible refine gF ?_);((refine z33 rfl ?_);intro K hK;(conv=>whnf)))|((intro _;skip)<;>(conv=>whnf))))
  all_goals exact ⟨rfl, MemFits.pre 1 rfl⟩
theorem places0_c (n : Int) : NCall Tryz.prog 75 [.agg [.int .i64 n, .hs (.slice none 0 0) 0, .hs (.slice none 0 0) 0]] [] fun r _ => r = .raw (.slice none 0 0) := by
  have hok : SlOk (.slice none 0 0) 0 := SlOk.nil
  refine ncall_of Tryz.func75 rfl (by decide) ?_
  (repeat' (first|(with_reducible first|(refine hK _ _ ?_;clear hK K)|(refine hB ?_;clear hA hB A B)|(refine hK _ ?_;clear hK K))|((with_reducible refine gO ?_);(first|((with_reducible refine z25 ?_);intro K hK;(conv=>whnf))|(with_reducible refine z0 ?_)))|((first|((with_reducible refine gI ?_);(((with_reducible refine NIf.decN ?s ?_);case s=>omega)))|((with_reducible refine gN ?_);(with_reducible refine NN.a5 ?_))|((with_reducible refine gH ?_);((with_reducible refine NH.mk ?s ?_);case s=>(and_intros<;>first|with_reducible rfl|omega))))<;>(conv=>whnf))|((with_reducible refine gX ?_);(first|(with_reducible refine st_rounds 1 ?_)|(with_reducible first|refine z3 ?_|refine z4 ?_|refine z5 ?_|refine z7 ?_|refine z8 ?_)|((with_reducible refine z29 ?_);intro A B hA hB;(conv=>whnf))))|(with_reducible first|refine z1 ?_|refine z2 ?_|refine z10 ?_|refine z11 ?_|refine z22 ?_)|((with_reducible refine gR ?_);((refine z31 rfl ?_);intro K hK;(conv=>whnf)))|((with_reducible refine gF ?_);((refine z33 rfl ?_);intro K hK;(conv=>whnf)))|((intro _;skip)<;>(conv=>whnf))))
  all_goals rfl
theorem topo0_c (F : Heap) (n : Int) (hn : 1 ≤ n ∧ n ≤ 8) : NCall Tryz.prog 35 [.agg (Tp.cs ⟨n, [], []⟩ (.slice none 0 0) (.slice none 0 0))] [hpB F] fun r m => r = .bool true ∧ m = [hpB F] := by
  refine NCall.fits (K := fun r m => r = .bool true ∧ MemFits m [hpB F]) ?_ fun r m' h => ⟨r, _, rfl, h.2, h.1, rfl⟩
  have cp := places0_c n
  have hok : SlOk (.slice none 0 0) 0 := SlOk.nil
  unfold Tp.cs
  simp only [List.length_nil]
  refine ncall_of Tryz.func35 rfl (by decide) ?_
  (repeat' (first|(with_reducible first|(refine hK _ _ ?_;clear hK K)|(refine hB ?_;clear hA hB A B)|(refine hK _ ?_;clear hK K))|((with_reducible refine gO ?_);(first|((with_reducible first|refine z25 ?_|refine z26 ?_);intro K hK;(conv=>whnf))|(with_reducible refine z0 ?_)))|((first|((with_reducible refine gI ?_);(((with_reducible refine NIf.decN ?s ?_);case s=>omega)))|((with_reducible refine gN ?_);(with_reducible refine NN.a5 ?_))|((with_reducible refine gH ?_);((with_reducible refine NH.mk ?s ?_);case s=>(and_intros<;>first|with_reducible rfl|omega)))|((with_reducible refine gC ?_);((with_reducible refine NCall.isF 75 ?_);refine NCall.pureE (cp) ?_)))<;>(conv=>whnf))|(refine NMap.make fun b => ?_; conv=>whnf)|((with_reducible refine gX ?_);(first|(with_reducible refine st_rounds 4 ?_)|(with_reducible first|refine z3 ?_|refine z4 ?_|refine z5 ?_|refine z6 ?_)|((with_reducible refine z29 ?_);intro A B hA hB;(conv=>whnf))))|(with_reducible first|refine z1 ?_|refine z2 ?_)|((with_reducible refine gF ?_);((refine z33 rfl ?_);intro K hK;(conv=>whnf)))|((intro _;skip)<;>(conv=>whnf))))
  refine st_rounds 1 ?_
  (repeat' (first|(with_reducible first|(refine hK _ _ ?_;clear hK K)|(refine hB ?_;clear hA hB A B)|(refine hK _ ?_;clear hK K))|((with_reducible refine gO ?_);(first|((with_reducible refine z25 ?_);intro K hK;(conv=>whnf))|(with_reducible refine z0 ?_)))|((((with_reducible refine gI ?_);(((with_reducible refine NIf.decN ?s ?_);case s=>omega))))<;>(conv=>whnf))|((with_reducible refine gX ?_);(first|(with_reducible first|refine z3 ?_|refine z4 ?_|refine z7 ?_|refine z8 ?_)|((with_reducible refine z29 ?_);intro A B hA hB;(conv=>whnf))))|(with_reducible first|refine z1 ?_|refine z2 ?_|refine z11 ?_|refine z22 ?_)|((with_reducible refine gR ?_);((refine z31 rfl ?_);intro K hK;(conv=>whnf)))))
  all_goals exact ⟨rfl, MemFits.pre 1 rfl⟩
end Go.Proofs.YtpkjnmddembkjaaGreatDoor
namespace Go.Proofs.YtpkjnmddembkjaaGreatDoor
open Go.Sx
set_option maxRecDepth 20000
set_option linter.unusedSimpArgs false
set_option linter.unusedVariables false
set_option maxHeartbeats 4000000
set_option linter.unusedVariables false
theorem awake30_at (F : Heap) (b3 : Nat) :
    NCall Tryz.prog 18 [.agg [.int .i64 1, .int .i64 5, .int .i64 0, .int .i64 0, .sl 3 (.slice (some ⟨b3, 0, none⟩) 2 2) 2, .int .i64 0, .int .i64 0, .raw (.slice none 0 0)], .int .i64 2]
      [hpB F, ⟨⟨b3, 0, none⟩, [.int .i64 3, .int .i64 5, .int .i64 2, .raw (.slice none 0 0), .int .i64 3, .int .i64 1, .int .i64 1, .raw (.slice none 0 0)], .row (.slice (some ⟨b3, 0, none⟩) 2 2) 36 4 2⟩]
      fun r m => ∃ G pu u, F.le G ∧ Po.At G Po.exX (.slice (some ⟨b3, 0, none⟩) 2 2) (.slice none 0 0) ∧ Po.At G (Po.spec 2 Po.exX) pu u ∧ r = .agg (Po.cs (Po.spec 2 Po.exX) pu u) ∧ m = [hpB G, hpB noHeap] := by
  generalize hw3 : Value.slice (some ⟨b3, 0, none⟩) 2 2 = w3
  have a3 : (⟨b3, 0, none⟩ : Addr) = addrOf w3 := by rw [← hw3]; rfl
  rw [a3]
  have h0 := at27_c _ noHeap (.mk 1 (.mk 1 0 0 []) 0 0 []) (.slice none 0 0) (.slice none 0 0) 0 (Nat.le_refl _) (by decide +kernel) (by decide +kernel) ⟨Pd.nilRow _, Po.nilRow _⟩
  refine NCall.when h0 fun ⟨W, hw⟩ => ?_
  have hok3 := (hw.row (List.mem_cons_of_mem _ (List.mem_singleton.2 rfl))).1
  have e3 : denL [AV.int .i64 3, .int .i64 5, .int .i64 2, .raw (.slice none 0 0), .int .i64 3, .int .i64 1, .int .i64 1, .raw (.slice none 0 0)] = [((.mk 3 5 2 [] : Pd.T), (Value.slice none 0 0)), (.mk 3 1 1 [], .slice none 0 0)].flatMap Pd.psV := rfl
  have r3 := rowF_new (F := F) (sz := 4) (enc := Pd.psV) hok3 e3 (fun x _ => rfl)
  have p3 := Pd.row_of r3 fun p hp => by
    rcases List.mem_cons.1 hp with rfl | hp
    · exact RowF.nil
    · rw [List.mem_singleton.1 hp]; exact RowF.nil
  have hat : Po.At _ Po.exX w3 (.slice none 0 0) := ⟨p3, Po.nilRow _⟩
  have c := at27_c _ _ Po.exX w3 (.slice none 0 0) 2 (Nat.le_refl _) (by rw [Po.ex_tot]; decide) Po.ex_fits hat
  refine (NCall.pre (args := [.agg [.int .i64 1, .int .i64 5, .int .i64 0, .int .i64 0, .sl 3 w3 2, .int .i64 0, .int .i64 0, .raw (.slice none 0 0)], .int .i64 2]) c rfl (MemFits.freeze (m := []))).fits fun r m' hr => ?_
  obtain ⟨G, pu, u, h1, h2, h3, rfl⟩ := hr
  exact ⟨r, _, rfl, (MemFits.noHeap _).trans (MemFits.pick [1, 0] (by decide) rfl), G, pu, u, addF.old.trans h1, Po.At.mono h1 hat, h2, h3, rfl⟩
theorem awake30_c (F : Heap) (hT : TabF F) : NCall Tryz.prog 7 [] [hpB F] fun r m => r = .bool true ∧ m = [hpB F] := by
  refine NCall.fits (K := fun r m => r = .bool true ∧ ∃ F', F.le F' ∧ MemFits m [hpB F']) ?_ fun r m' ⟨h1, F', h2, h3⟩ => ⟨r, _, rfl, h3.trans (MemFits.less h2 []), h1, rfl⟩
  have c2 := awake30_at F
  rw [Po.ex_spec2] at c2
  have t2 := fun G pu u (hG : F.le G) h => textF27_c G (hT.mono hG) (.mk 3 1 1 []) pu u (by decide +kernel) (by decide +kernel) h
  have t1 := fun G pu u (hG : F.le G) h => textF27_c G (hT.mono hG) (.mk 2 0 0 []) pu u (by decide +kernel) (by decide +kernel) h
  rw [Po.ex_text2] at t2
  rw [Po.ex_text1] at t1
  have c1 := fun G pu u h => at27_c _ G Po.exX pu u 1 (Nat.le_refl _) (by rw [Po.ex_tot]; decide) Po.ex_fits h
  rw [Po.ex_spec1] at c1
  have cc := fun G pu u h => cells27_c G Po.exX pu u (by rw [Po.ex_tot]; decide) h
  rw [Po.ex_cells] at cc
  have k3 := fun G pu u h => check27_c G ⟨3, [], []⟩ (.slice none 0 0) (.slice none 0 0) Po.exX pu u true ⟨RowF.nil, RowF.nil⟩ (by decide) (by decide) (by rw [Po.ex_tot]; decide) h (topo0_c G 3 (by decide))
  have k2 := fun G pu u h => check27_c G ⟨2, [], []⟩ (.slice none 0 0) (.slice none 0 0) Po.exX pu u true ⟨RowF.nil, RowF.nil⟩ (by decide) (by decide) (by rw [Po.ex_tot]; decide) h (topo0_c G 2 (by decide))
  rw [Po.ex_check3] at k3
  rw [Po.ex_check2] at k2
  have c2 : ∀ b3 : Nat, NCall Tryz.prog 18 [.agg [.int .i64 1, .int .i64 5, .int .i64 0, .int .i64 0, .sl 3 (.slice (some ⟨b3, 0, none⟩) 2 2) 2, .int .i64 0, .int .i64 0, .raw (.slice none 0 0)], .int .i64 2]
      [hpB F, ⟨⟨b3, 0, none⟩, [.int .i64 3, .int .i64 5, .int .i64 2, .raw (.slice none 0 0), .int .i64 3, .int .i64 1, .int .i64 1, .raw (.slice none 0 0)], .row (.slice (some ⟨b3, 0, none⟩) 2 2) 36 4 2⟩]
      fun r m => ∃ G pu u, F.le G ∧ Po.At G Po.exX (.slice (some ⟨b3, 0, none⟩) 2 2) (.slice none 0 0) ∧ Po.At G (.mk 1 (.mk 3 1 1 []) 0 0 []) pu u ∧ r = .agg [.int .i64 1, .int .i64 3, .int .i64 1, .int .i64 1, .hs pu 0, .int .i64 0, .int .i64 0, .hs u 0] ∧ m = [hpB G, hpB noHeap] := c2
  have t2 : ∀ G pu u (hG : F.le G) h, NCall Tryz.prog 34 [.agg [.int .i64 1, .int .i64 3, .int .i64 1, .int .i64 1, .hs pu 0, .int .i64 0, .int .i64 0, .hs u 0]] [hpB G] fun r m => r = .str [119, 104, 101, 110, 32, 100, 115, 116, 32, 61, 32, 49] ∧ m = [hpB G] := t2
  have t1 : ∀ G pu u (hG : F.le G) h, NCall Tryz.prog 34 [.agg [.int .i64 1, .int .i64 2, .int .i64 0, .int .i64 0, .hs pu 0, .int .i64 0, .int .i64 0, .hs u 0]] [hpB G] fun r m => r = .str [100, 114, 111, 112] ∧ m = [hpB G] := t1
  have c1 : ∀ G w h, NCall Tryz.prog 18 [.agg [.int .i64 1, .int .i64 5, .int .i64 0, .int .i64 0, .hs w 2, .int .i64 0, .int .i64 0, .hs (.slice none 0 0) 0], .int .i64 1] [hpB G] fun r m => ∃ F' pu u, G.le F' ∧ Po.At F' (.mk 1 (.mk 2 0 0 []) 0 0 []) pu u ∧ r = .agg [.int .i64 1, .int .i64 2, .int .i64 0, .int .i64 0, .hs pu 0, .int .i64 0, .int .i64 0, .hs u 0] ∧ m = [hpB F'] := fun G w h => c1 G w (.slice none 0 0) h
  have cc : ∀ G w h, NCall Tryz.prog 14 [.agg [.int .i64 1, .int .i64 5, .int .i64 0, .int .i64 0, .hs w 2, .int .i64 0, .int .i64 0, .hs (.slice none 0 0) 0]] [hpB G] fun r m => r = .int .i64 2 ∧ m = [hpB G] := fun G w h => cc G w (.slice none 0 0) h
  have k3 : ∀ G w h, NCall Tryz.prog 9 [.agg [.int .i64 3, .raw (.slice none 0 0), .raw (.slice none 0 0)], .agg [.int .i64 1, .int .i64 5, .int .i64 0, .int .i64 0, .hs w 2, .int .i64 0, .int .i64 0, .hs (.slice none 0 0) 0]] [hpB G] fun r m => r = .int .i64 0 ∧ m = [hpB G] := fun G w h => NCall.pre (k3 G w (.slice none 0 0) h) rfl (MemFits.eq rfl)
  have k2 : ∀ G w h, NCall Tryz.prog 9 [.agg [.int .i64 2, .raw (.slice none 0 0), .raw (.slice none 0 0)], .agg [.int .i64 1, .int .i64 5, .int .i64 0, .int .i64 0, .hs w 2, .int .i64 0, .int .i64 0, .hs (.slice none 0 0) 0]] [hpB G] fun r m => r = .int .i64 13 ∧ m = [hpB G] := fun G w h => NCall.pre (k2 G w (.slice none 0 0) h) rfl (MemFits.eq rfl)
  refine ncall_of Tryz.func7 rfl (by decide) ?_
  (repeat' (first|(with_reducible first|(refine hK _ _ ?_;clear hK K)|(refine hK _ ?_;clear hK K))|((with_reducible refine gO ?_);(first|((with_reducible first|refine z25 ?_|refine z26 ?_);intro K hK;(conv=>whnf))|(with_reducible refine z0 ?_)))|((first|((with_reducible refine gI ?_);((((with_reducible refine NIf.yes ?s ?_);case s=>(simp ;done)))))|((with_reducible refine gH ?_);((with_reducible refine NH.mk ?s ?_);case s=>(and_intros<;>first|with_reducible rfl|((with_reducible refine gOnes ?_);rfl)|((with_reducible refine gLen ?_);rfl)|omega)))|((with_reducible refine gC ?_);(first|((with_reducible refine NCall.isF 18 ?_);refine NCall.subw [0, 3] _ _ (c2 _) rfl (by decide) rfl ?_; rintro _ _ ⟨G, pu, u, hle, hx, hs, rfl, rfl⟩; refine ⟨Nat.le_of_ble_eq_true rfl, _, rfl, ?_⟩)|((with_reducible refine NCall.isF 34 ?_);refine NCall.subE [0] (t2 G pu u hle hs) rfl (by decide) rfl rfl ?_)|((with_reducible refine NCall.isF 18 ?_);refine NCall.subw [0] _ _ (c1 G _ hx) rfl (by decide) rfl ?_; rintro _ _ ⟨G2, pu2, u2, hle2, hs2, rfl, rfl⟩; refine ⟨Nat.le_of_ble_eq_true rfl, _, rfl, ?_⟩)|((with_reducible refine NCall.isF 34 ?_);refine NCall.subE [0] (t1 G2 pu2 u2 (hle.trans hle2) hs2) rfl (by decide) rfl rfl ?_)|((with_reducible refine NCall.isF 14 ?_);refine NCall.subE [0] (cc G2 _ (Po.At.mono hle2 hx)) rfl (by decide) rfl rfl ?_)|((with_reducible refine NCall.isF 9 ?_);refine NCall.subE [0] (k3 G2 _ (Po.At.mono hle2 hx)) rfl (by decide) rfl rfl ?_)|((with_reducible refine NCall.isF 9 ?_);refine NCall.subE [0] (k2 G2 _ (Po.At.mono hle2 hx)) rfl (by decide) rfl rfl ?_))))<;>(conv=>whnf))|((with_reducible refine gX ?_);((with_reducible first|refine z3 ?_|refine z4 ?_|refine z8 ?_)))|(with_reducible first|refine z1 ?_|refine z2 ?_)|((with_reducible refine gR ?_);((refine z31 rfl ?_);intro K hK;(conv=>whnf)))|((with_reducible refine gF ?_);((refine z33 rfl ?_);intro K hK;(conv=>whnf)))|((intro _;skip)<;>(conv=>whnf))))
  all_goals exact ⟨rfl, G2, hle.trans hle2, MemFits.pre 1 rfl⟩
end Go.Proofs.YtpkjnmddembkjaaGreatDoor
