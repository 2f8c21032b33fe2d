/-
  Are two slices of packets the same?; Policies: the chapter's example.
-/
import Derived.Test.YtngodakgbldlpaaGreatDoorJ19
import Derived.Test.YtngodakgbldlpaaGreatDoorJ26
import Derived.Test.YtngodakgbldlpaaGreatDoorJ11
import Derived.Test.YtngodakgbldlpaaGreatDoorJ23
import Derived.Test.YtngodakgbldlpaaGreatDoorJ24
namespace Go.Proofs.YtngodakgbldlpaaGreatDoor
open Go.Sx
set_option maxRecDepth 20000
set_option linter.unusedSimpArgs false
set_option linter.unusedVariables false
set_option maxHeartbeats 4000000
set_option linter.unusedVariables false
theorem po_boolT {p : Prop} {_ : Decidable p} (h : p) : AV.bool true = .bool (decide p) := by rw [decide_eq_true h]
theorem po_boolF {p : Prop} {_ : Decidable p} (h : ¬ p) : AV.bool false = .bool (decide p) := by rw [decide_eq_false h]
theorem po_sent_pure {a b : List Po.S} (hl : a.length = b.length) (h : ∀ j, j < a.length → a[j]? = b[j]?) : a = b := List.ext_getElem? fun j => by
  by_cases hj : j < a.length
  · exact h j hj
  · rw [List.getElem?_eq_none (by omega), List.getElem?_eq_none (by omega)]
theorem sent27_c (F : Heap) (v w : Value) (a b : List Po.S) (hv : RowF F 5 (fun x vs => vs = x.vs) v a) (hw : RowF F 5 (fun x vs => vs = x.vs) w b) (ha : a.length ≤ 9223372036854775807) (hb : b.length ≤ 9223372036854775807) :
    NCall Tryz.prog 12 [.hs v a.length, .hs w b.length] [hpB F] fun r m => r = .bool (decide (a = b)) ∧ m = [hpB F] := by
  have hok := hv.ok
  have hokw := hw.ok
  refine ncall_of Tryz.func12 rfl (by decide) ?_
  by_cases hl : a.length = b.length
  rotate_left
  · (repeat' (first|(with_reducible first|(refine hK _ _ ?_;clear hK K)|(refine hA ?_;clear hA hB A B)|(refine hK _ ?_;clear hK K))|((with_reducible refine gO ?_);(first|((with_reducible refine z25 ?_);intro K hK;(conv=>whnf))|(with_reducible refine z0 ?_)))|((first|((with_reducible refine gI ?_);(first|with_reducible refine NIf.not_ ?_|((with_reducible refine NIf.decN ?s ?_);case s=>omega)))|((with_reducible refine gH ?_);((with_reducible refine NH.mk ?s ?_);case s=>(and_intros<;>omega))))<;>(conv=>whnf))|((with_reducible refine gX ?_);(first|(with_reducible first|refine z3 ?_|refine z4 ?_|refine z8 ?_)|((with_reducible refine z29 ?_);intro A B hA hB;(conv=>whnf))))|(with_reducible first|refine z1 ?_|refine z2 ?_|refine z12 ?_)|((with_reducible refine gR ?_);((refine z31 rfl ?_);intro K hK;(conv=>whnf)))|((with_reducible refine gF ?_);((refine z33 rfl ?_);intro K hK;(conv=>whnf)))))
    exact ⟨po_boolF (fun e => hl (by rw [e])), rfl⟩
  (repeat' (first|(with_reducible first|(refine hK _ _ ?_;clear hK K)|(refine hB ?_;clear hA hB A B)|(refine hK _ ?_;clear hK K))|((with_reducible refine gO ?_);(first|((with_reducible refine z25 ?_);intro K hK;(conv=>whnf))|(with_reducible refine z0 ?_)))|((first|((with_reducible refine gI ?_);(first|with_reducible refine NIf.not_ ?_|((with_reducible refine NIf.decY ?s ?_);case s=>omega)))|((with_reducible refine gH ?_);((with_reducible refine NH.mk ?s ?_);case s=>(and_intros<;>omega))))<;>(conv=>whnf))|((with_reducible refine gX ?_);(first|(with_reducible first|refine z3 ?_|refine z4 ?_|refine z5 ?_|refine z6 ?_)|((with_reducible refine z29 ?_);intro A B hA hB;(conv=>whnf))))|(with_reducible first|refine z1 ?_|refine z2 ?_)|((with_reducible refine gF ?_);((refine z33 rfl ?_);intro K hK;(conv=>whnf)))))
  refine st_auto (α := Nat) (fun k => k ≤ a.length ∧ ∀ j, j < k → a[j]? = b[j]?) (fun k => [.keep, .keep, .keep, .keep, .drop, .set (.int .i64 k), .keep, .keep, .keep, .keep, .keep, .drop, .drop, .drop, .drop, .drop, .drop, .drop, .drop, .drop, .drop, .drop, .drop, .drop, .drop, .drop]) (fun _ => []) (fun k => a.length - k) 0 ⟨Nat.zero_le _, fun j hj => absurd hj (Nat.not_lt_zero _)⟩ ?_ (MemFits.eq rfl) ?_
  · repeat (first|exact FitsSl.nil|refine FitsSl.any ?_|refine FitsSl.cons (Fit1.int (by first | rfl | omega)) ?_|refine FitsSl.cons (Fit1.bool rfl) ?_|refine FitsSl.cons (Fit1.same (by intro h; cases h) (by with_reducible rfl)) ?_)
  (intro k ⟨hk, hgone⟩; intro K hK; (conv=>whnf); refine hK _ _ ?_; clear hK K)
  by_cases hlt : k < a.length
  · have hlt2 : k < b.length := by omega
    obtain ⟨g0, g1, g2, g3, g4⟩ := RowF.get5 (f0 := fun s : Po.S => .int .i64 s.port) (f1 := fun s => .int .i64 s.p0) (f2 := fun s => .int .i64 s.p1) (f3 := fun s => .int .i64 s.p2) (f4 := fun s => .int .i64 s.p3) hv hlt
    obtain ⟨e0, e1, e2, e3, e4⟩ := RowF.get5 (f0 := fun s : Po.S => .int .i64 s.port) (f1 := fun s => .int .i64 s.p0) (f2 := fun s => .int .i64 s.p1) (f3 := fun s => .int .i64 s.p2) (f4 := fun s => .int .i64 s.p3) hw hlt2
    have hx : a[k]? = some a[k] := List.getElem?_eq_getElem hlt
    have hy : b[k]? = some b[k] := List.getElem?_eq_getElem hlt2
    generalize a[k] = x at *
    generalize b[k] = y at *
    by_cases hxy : x = y
    · subst hxy
      obtain ⟨xp, xa, xb, xc, xd⟩ := x
      dsimp only at *
      (repeat' (first|(with_reducible first|(refine hK _ _ ?_;clear hK K)|(refine hA ?_;clear hA hB A B)|(refine hB ?_;clear hA hB A B)|(refine hK _ ?_;clear hK K))|((with_reducible refine gO ?_);(first|((with_reducible refine z25 ?_);intro K hK;(conv=>whnf))|(with_reducible refine z0 ?_)))|((first|((with_reducible refine gV ?_);(((with_reducible refine NV.i64 ?s ?_);case s=>omega)))|((with_reducible refine gI ?_);(first|(((with_reducible refine NIf.no ?s ?_);case s=>(simp ;done)))|((with_reducible refine NIf.decY ?s ?_);case s=>omega)))|((with_reducible refine gN ?_);(with_reducible first|refine NN.cast ?_|refine NN.keep ?_))|((with_reducible refine gH ?_);((with_reducible refine NH.mk ?s ?_);case s=>(and_intros<;>omega)))|(with_reducible refine NLd.of (by with_reducible assumption) ?_))<;>(conv=>whnf))|((with_reducible refine gNRH ?_);((with_reducible refine st_ordRout ?_)))|((with_reducible refine gNOH ?_);(first|(refine st_ordH1 rfl (by kernel_rfl) rfl ?_; intro K hK; (conv=>whnf))|(refine st_ordH0 rfl (by kernel_rfl) ?_)))|((with_reducible refine gX ?_);(first|(refine st_orderR rfl (by kernel_rfl) _ rfl ?_)|(with_reducible first|refine z3 ?_|refine z4 ?_|refine z5 ?_|refine z6 ?_)|((with_reducible refine z29 ?_);intro A B hA hB;(conv=>whnf))))|(with_reducible first|refine z1 ?_|refine z2 ?_|refine z9 ?_)|((refine NFlat_iff.2 ⟨⟨?s1,?s2⟩,?_⟩;(case s1=>decide +kernel);(case s2=>decide +kernel))<;>(conv=>whnf))))
      refine st_round (k + 1) ⟨hlt, fun j hj => ?_⟩ (by omega) ?_ (MemFits.eq rfl)
      · by_cases e : j = k
        · subst e
          rw [hx, hy]
        · exact hgone j (by omega)
      · repeat (first|exact FitsSl.nil|refine FitsSl.any ?_|refine FitsSl.cons (Fit1.int (by first | rfl | omega)) ?_|refine FitsSl.cons (Fit1.bool rfl) ?_|refine FitsSl.cons (Fit1.same (by intro h; cases h) (by with_reducible rfl)) ?_)
    · obtain ⟨xp, xa, xb, xc, xd⟩ := x
      obtain ⟨yp, ya, yb, yc, yd⟩ := y
      have hnb : (decide (xp = yp) && (decide (xa = ya) && (decide (xb = yb) && (decide (xc = yc) && (decide (xd = yd) && true))))) = false := by
        refine Bool.eq_false_iff.2 fun h => hxy ?_
        simp only [Bool.and_eq_true, decide_eq_true_eq, and_true] at h
        obtain ⟨rfl, rfl, rfl, rfl, rfl⟩ := h
        rfl
      dsimp only at *
      (repeat' (first|(with_reducible first|(refine hK _ _ ?_;clear hK K)|(refine hA ?_;clear hA hB A B)|(refine hK _ ?_;clear hK K))|((with_reducible refine gO ?_);(first|((with_reducible refine z25 ?_);intro K hK;(conv=>whnf))|(with_reducible refine z0 ?_)))|((first|((with_reducible refine gI ?_);(first|(((with_reducible refine NIf.yes ?s ?_);case s=>((rw [hnb]; rfl))))|((with_reducible refine NIf.decY ?s ?_);case s=>omega)))|((with_reducible refine gN ?_);(with_reducible first|refine NN.cast ?_|refine NN.keep ?_))|((with_reducible refine gH ?_);((with_reducible refine NH.mk ?s ?_);case s=>(and_intros<;>omega)))|(with_reducible refine NLd.of (by with_reducible assumption) ?_))<;>(conv=>whnf))|((with_reducible refine gNRH ?_);((with_reducible refine st_ordRout ?_)))|((with_reducible refine gNOH ?_);(first|(refine st_ordH1 rfl (by kernel_rfl) rfl ?_; intro K hK; (conv=>whnf))|(refine st_ordH0 rfl (by kernel_rfl) ?_)))|((with_reducible refine gX ?_);(first|(refine st_orderR rfl (by kernel_rfl) _ rfl ?_)|(with_reducible first|refine z3 ?_|refine z4 ?_|refine z5 ?_|refine z6 ?_|refine z8 ?_)|((with_reducible refine z29 ?_);intro A B hA hB;(conv=>whnf))))|(with_reducible first|refine z1 ?_|refine z2 ?_|refine z12 ?_|refine z13 ?_|refine z20 ?_)|((with_reducible refine gR ?_);((refine z31 rfl ?_);intro K hK;(conv=>whnf)))|((refine NFlat_iff.2 ⟨⟨?s1,?s2⟩,?_⟩;(case s1=>decide +kernel);(case s2=>decide +kernel))<;>(conv=>whnf))))
      exact ⟨po_boolF (fun e => hxy (by subst e; rw [hx] at hy; injection hy)), rfl⟩
  · (repeat' (first|(with_reducible first|(refine hK _ _ ?_;clear hK K)|(refine hB ?_;clear hA hB A B)|(refine hK _ ?_;clear hK K))|((with_reducible refine gO ?_);(first|((with_reducible refine z25 ?_);intro K hK;(conv=>whnf))|(with_reducible refine z0 ?_)))|((first|((with_reducible refine gI ?_);(((with_reducible refine NIf.decN ?s ?_);case s=>omega)))|((with_reducible refine gH ?_);((with_reducible refine NH.mk ?s ?_);case s=>(and_intros<;>omega))))<;>(conv=>whnf))|((with_reducible refine gX ?_);(first|(with_reducible first|refine z3 ?_|refine z4 ?_|refine z7 ?_|refine z8 ?_)|((with_reducible refine z29 ?_);intro A B hA hB;(conv=>whnf))))|(with_reducible first|refine z1 ?_|refine z2 ?_|refine z10 ?_|refine z11 ?_|refine z19 ?_)|((with_reducible refine gR ?_);((refine z31 rfl ?_);intro K hK;(conv=>whnf)))))
    exact ⟨po_boolT (po_sent_pure hl fun j hj => hgone j (by omega)), rfl⟩
end Go.Proofs.YtngodakgbldlpaaGreatDoor
namespace Go.Proofs.YtngodakgbldlpaaGreatDoor
open Go.Sx
set_option maxRecDepth 20000
set_option linter.unusedSimpArgs false
set_option linter.unusedVariables false
set_option maxHeartbeats 4000000
set_option linter.unusedVariables false
namespace Po
def exL : List T := [.mk 2 noneP 1 3 [], .mk 2 noneP 4 1 []]
def exX : T := .mk 3 noneP 0 0 exL
theorem ex_runs : runs 0 exX ⟨5, 7, 2, 0, 0⟩ = [⟨1, 7, 3, 0, 0⟩] := by decide +kernel
theorem ex_fits : fits exX = true := by decide +kernel
theorem ex_right : right exX = true := by decide +kernel
theorem ex_wide : wide exX = 1 := by decide +kernel
theorem ex_tot : tot exX = 6 := by decide +kernel
theorem ex_text : text exX = [100, 115, 116, 32, 58, 61, 32, 51, 59, 32, 112, 111, 114, 116, 32, 58, 61, 32, 49] := by decide +kernel
end Po
theorem awake27_run (F : Heap) (b : Nat) :
    NCall Tryz.prog 13 [.agg [.int .i64 3, .int .i64 0, .int .i64 0, .int .i64 0, .raw (.slice none 0 0), .int .i64 0, .int .i64 0, .sl 1 (.slice (some ⟨b, 0, none⟩) 2 2) 2], .int .i64 0, .int .i64 5, .agg [.int .i64 7, .int .i64 2, .int .i64 0, .int .i64 0]]
      [hpB F, ⟨⟨b, 0, none⟩, [.int .i64 2, .int .i64 0, .int .i64 0, .int .i64 0, .raw (.slice none 0 0), .int .i64 1, .int .i64 3, .raw (.slice none 0 0), .int .i64 2, .int .i64 0, .int .i64 0, .int .i64 0, .raw (.slice none 0 0), .int .i64 4, .int .i64 1, .raw (.slice none 0 0)], .row (.slice (some ⟨b, 0, none⟩) 2 2) 38 8 2⟩]
      fun r m => ∃ G v, F.le G ∧ Po.At G Po.exX (.slice none 0 0) (.slice (some ⟨b, 0, none⟩) 2 2) ∧ SlOk v 1 ∧ G.c ((addrOf v).add 0) (.int .i64 1) ∧ G.c ((addrOf v).add 1) (.int .i64 7) ∧ G.c ((addrOf v).add 2) (.int .i64 3) ∧ G.c ((addrOf v).add 3) (.int .i64 0) ∧ G.c ((addrOf v).add 4) (.int .i64 0) ∧ r = .hs v 1 ∧ m = [hpB G, hpB noHeap] := by
  have hok : SlOk (.slice (some ⟨b, 0, none⟩) 2 2) 2 := ⟨_, _, rfl, Nat.le_refl _, fun h => by cases h⟩
  generalize hw : Value.slice (some ⟨b, 0, none⟩) 2 2 = w at *
  have e8 : denL ([.int .i64 2, .int .i64 0, .int .i64 0, .int .i64 0, .raw (.slice none 0 0), .int .i64 1, .int .i64 3, .raw (.slice none 0 0), .int .i64 2, .int .i64 0, .int .i64 0, .int .i64 0, .raw (.slice none 0 0), .int .i64 4, .int .i64 1, .raw (.slice none 0 0)] : List AV) = [(⟨.mk 2 Po.noneP 1 3 [], .slice none 0 0, .slice none 0 0⟩ : Po.L), ⟨.mk 2 Po.noneP 4 1 [], .slice none 0 0, .slice none 0 0⟩].flatMap Po.psV := rfl
  have r8 := rowF_new (F := F) (sz := 8) (enc := Po.psV) hok e8 (fun x _ => rfl)
  have p8 := Po.row_of r8 fun p hp => by
    rcases List.mem_cons.1 hp with rfl | hp
    · exact ⟨RowF.nil, RowF.nil⟩
    · rw [List.mem_singleton.1 hp]; exact ⟨RowF.nil, RowF.nil⟩
  have hat : Po.At (addF F (addrOf w) (denL ([.int .i64 2, .int .i64 0, .int .i64 0, .int .i64 0, .raw (.slice none 0 0), .int .i64 1, .int .i64 3, .raw (.slice none 0 0), .int .i64 2, .int .i64 0, .int .i64 0, .int .i64 0, .raw (.slice none 0 0), .int .i64 4, .int .i64 1, .raw (.slice none 0 0)] : List AV))) Po.exX (.slice none 0 0) w := ⟨RowF.nil, p8⟩
  have c := Run27_c _ Po.exX (.slice none 0 0) w 0 ⟨5, 7, 2, 0, 0⟩ (by rw [Po.ex_tot]; decide) Po.ex_fits (by rw [Po.ex_runs]; decide) hat
  rw [Po.ex_runs] at c
  refine (NCall.pre (args := [.agg [.int .i64 3, .int .i64 0, .int .i64 0, .int .i64 0, .raw (.slice none 0 0), .int .i64 0, .int .i64 0, .sl 1 w 2], .int .i64 0, .int .i64 5, .agg [.int .i64 7, .int .i64 2, .int .i64 0, .int .i64 0]]) c rfl (MemFits.freeze (m := []))).fits fun r m' hr => ?_
  obtain ⟨G, u, h1, h2, rfl, rfl⟩ := hr
  obtain ⟨g0, g1, g2, g3, g4⟩ := RowF.get5 (f0 := fun s : Po.S => .int .i64 s.port) (f1 := fun s => .int .i64 s.p0) (f2 := fun s => .int .i64 s.p1) (f3 := fun s => .int .i64 s.p2) (f4 := fun s => .int .i64 s.p3) h2 (k := 0) (by decide)
  exact ⟨_, _, rfl, (MemFits.noHeap _).trans (MemFits.pick [1, 0] (by decide) rfl), G, u, addF.old.trans h1, Po.At.mono h1 hat, h2.ok, g0, g1, g2, g3, g4, rfl, rfl⟩
theorem awake27_c (F : Heap) (hT : TabF F) : NCall Tryz.prog 8 [] [hpB F] fun r m => r = .bool true ∧ m = [hpB F] := by
  refine NCall.fits (K := fun r m => r = .bool true ∧ ∃ F', F.le F' ∧ MemFits m [hpB F']) ?_ fun r m' ⟨h1, F', h2, h3⟩ => ⟨r, _, rfl, h3.trans (MemFits.less h2 []), h1, rfl⟩
  have ct : ∀ G w, TabF G → Po.At G Po.exX (.slice none 0 0) w → NCall Tryz.prog 28 [.agg [.int .i64 3, .int .i64 0, .int .i64 0, .int .i64 0, .hs (.slice none 0 0) 0, .int .i64 0, .int .i64 0, .hs w 2]] [hpB G] fun r m => r = .str [100, 115, 116, 32, 58, 61, 32, 51, 59, 32, 112, 111, 114, 116, 32, 58, 61, 32, 49] ∧ m = [hpB G] := fun G w hT h => by
    have := text27_c G hT _ Po.exX _ w (Nat.le_refl _) (by rw [Po.ex_tot]; decide) Po.ex_fits h
    rw [Po.ex_text] at this
    exact this
  have cr : ∀ G w, Po.At G Po.exX (.slice none 0 0) w → NCall Tryz.prog 15 [.agg [.int .i64 3, .int .i64 0, .int .i64 0, .int .i64 0, .hs (.slice none 0 0) 0, .int .i64 0, .int .i64 0, .hs w 2]] [hpB G] fun r m => r = .bool true ∧ m = [hpB G] := fun G w h => by
    have := right27_c G Po.exX _ w (by rw [Po.ex_tot]; decide) h
    rw [Po.ex_right] at this
    exact this
  have cw : ∀ G w, Po.At G Po.exX (.slice none 0 0) w → NCall Tryz.prog 20 [.agg [.int .i64 3, .int .i64 0, .int .i64 0, .int .i64 0, .hs (.slice none 0 0) 0, .int .i64 0, .int .i64 0, .hs w 2]] [hpB G] fun r m => r = .int .i64 1 ∧ m = [hpB G] := fun G w h => by
    have := wide27_c G _ Po.exX _ w (Nat.le_refl _) (by rw [Po.ex_tot]; decide) h
    rw [Po.ex_wide] at this
    exact this
  refine ncall_of Tryz.func8 rfl (by decide) ?_
  (repeat' (first|(with_reducible first|(refine hK _ _ ?_;clear hK K)|(refine hK _ ?_;clear hK K))|((with_reducible refine gO ?_);(first|((with_reducible first|refine z25 ?_|refine z26 ?_);intro K hK;(conv=>whnf))|(with_reducible refine z0 ?_)))|((first|((with_reducible refine gI ?_);((((with_reducible refine NIf.yes ?s ?_);case s=>(simp ;done)))))|((with_reducible refine gN ?_);(with_reducible first|refine NN.lit ?_|refine NN.a6 ?_))|((with_reducible refine gH ?_);((with_reducible refine NH.mk ?s ?_);case s=>(and_intros<;>first|with_reducible rfl|((with_reducible refine gOnes ?_);rfl)|((with_reducible refine gLen ?_);rfl)|omega)))|((with_reducible refine gC ?_);(first|((with_reducible refine NCall.isF 13 ?_);refine NCall.subw [0, 1] _ _ (awake27_run F _) rfl (by decide) rfl ?_; rintro _ _ ⟨G, u, hle, hat, hok, g0, g1, g2, g3, g4, rfl, rfl⟩; refine ⟨Nat.le_of_ble_eq_true rfl, _, rfl, ?_⟩)|((with_reducible refine NCall.isF 28 ?_);refine NCall.subE [0] (ct G _ (hT.mono hle) hat) rfl (by decide) rfl rfl ?_)|((with_reducible refine NCall.isF 15 ?_);refine NCall.subE [0] (cr G _ hat) rfl (by decide) rfl rfl ?_)|((with_reducible refine NCall.isF 20 ?_);refine NCall.subE [0] (cw G _ hat) rfl (by decide) rfl rfl ?_)))|(with_reducible refine NLd.of (by with_reducible assumption) ?_))<;>(conv=>whnf))|((with_reducible refine gX ?_);((with_reducible first|refine z3 ?_|refine z4 ?_|refine z8 ?_)))|(with_reducible first|refine z1 ?_|refine z2 ?_)|((with_reducible refine gR ?_);((refine z31 rfl ?_);intro K hK;(conv=>whnf)))|((with_reducible refine gF ?_);((refine z33 rfl ?_);intro K hK;(conv=>whnf)))|((refine NFlat_iff.2 ⟨⟨?s1,?s2⟩,?_⟩;(case s1=>decide +kernel);(case s2=>decide +kernel))<;>(conv=>whnf))|((intro _;skip)<;>(conv=>whnf))))
  all_goals exact ⟨rfl, G, hle, MemFits.pre 1 rfl⟩
end Go.Proofs.YtngodakgbldlpaaGreatDoor

