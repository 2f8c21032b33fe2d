/-
  Traces: the document's, out of the program's; the same ones.
-/
import Derived.Test.YtniahabpedamcaaDoorTc6
namespace Go.Proofs.YtniahabpedamcaaDoor
open Go.Sx
set_option maxRecDepth 20000
set_option linter.unusedSimpArgs false
set_option linter.unusedVariables false
set_option maxHeartbeats 4000000
set_option linter.unusedVariables false
namespace Tc
theorem rows_know2 {f : FuncId} {args : List AV} {F : Heap} {t : TypeId} {m : List Blk} {l : List C} (h : NCall Tryd.prog f args m fun r m' => ∃ v, ∃ ps : List L, ps.map (·.x) = l ∧ (∀ p ∈ ps, IRow F p.v p.x.sws) ∧ r.den = slOf v ∧ MemFits m' [hpB F, ⟨addrOf v, psC ps, .row v t 8 ps.length⟩]) :
    NCall Tryd.prog f args m fun r m' => Lays F l r m' := by
  refine Go.Sx.NCall.know h fun r m' ⟨u, ps, hmap, hall, hr, hm⟩ ⟨w, hw⟩ => ?_
  have hok := ((hm w hw).1.row (List.mem_cons_of_mem _ (List.mem_cons_self ..))).1
  have hrow := rowF_new (F := F) (sz := 8) (enc := psV) hok (psC_den ps) (fun x _ => rfl)
  refine ⟨.hs u l.length, _, hr.symm, hm.trans (MemFits.freeze (m := [])), _, u, addF.old, ?_, rfl, rfl⟩
  rw [← hmap]
  exact row_of hrow fun p hp => irow_mono addF.old (hall p hp)
theorem C.eq {x y : C} (h0 : x.id = y.id) (h1 : x.fr = y.fr) (h2 : x.to = y.to) (h3 : x.at_ = y.at_) (h4 : x.sws = y.sws) (h5 : x.end_ = y.end_) (h6 : x.host = y.host) (h7 : x.last = y.last) : x = y := by
  cases x
  cases y
  dsimp only at *
  subst h0 h1 h2 h3 h4 h5 h6 h7
  rfl
end Tc
theorem theirs41_c (F : Heap) (v : Value) (l : List Tc.C) (hv : Tc.Row F v l) (hl : l.length ≤ 1000) : NCall Tryd.prog 9 [.hs v l.length] [hpB F] fun r m => Tc.Lays F l r m := by
  refine Tc.rows_know2 (t := 32) ?_
  have hok := hv.ok
  refine ncall_of Tryd.func9 rfl (by decide) ?_
  (repeat' (first|(with_reducible first|(refine hK _ _ ?_;clear hK K)|(refine hK _ ?_;clear hK K))|((with_reducible refine gO ?_);(first|((with_reducible refine z25 ?_);intro K hK;(conv=>whnf))|(with_reducible refine z0 ?_)))|(with_reducible refine gX ?_;first|refine z3 ?_|refine z4 ?_|refine z5 ?_)|(with_reducible first|refine z1 ?_|refine z2 ?_)|((with_reducible refine gF ?_);((refine z33 rfl ?_);intro K hK;(conv=>whnf)))))
  refine st_auto (α := Value × Nat × List Tc.L) (fun (w, i, ps) => i ≤ l.length ∧ ps.map (·.x) = l.take i ∧ ∀ p ∈ ps, Tc.IRow F p.v p.x.sws) (fun (w, i, ps) => [.keep, .keep, .keep, .set (.sl 1 w ps.length), .set (.int .i64 i), .drop, .drop, .drop, .drop, .drop, .drop, .drop, .drop, .drop, .drop, .drop, .drop, .drop, .drop, .drop, .drop, .drop, .drop, .drop, .drop, .drop, .drop, .drop, .drop, .drop, .drop, .drop, .drop, .drop, .drop, .drop, .keep])
    (fun (w, i, ps) => [.keep, .set ⟨addrOf w, Tc.psC ps, .row w 32 8 ps.length⟩]) (fun (w, i, ps) => l.length - i) (.slice none 0 0, 0, []) ⟨Nat.zero_le _, rfl, fun p h => (by cases h)⟩ ?_ (MemFits.nilRow _ 32 8) ?_
  · repeat (first|exact FitsSl.nil|refine FitsSl.any ?_|refine FitsSl.cons (Fit1.int (by first | rfl | omega)) ?_|refine FitsSl.cons (Fit1.same (by intro h; cases h) (by with_reducible rfl)) ?_|refine FitsSl.cons Fit1.nil_sl ?_)
  (intro ⟨w, i, ps⟩ ⟨hi, hps, hall⟩; intro K hK; (conv=>whnf); refine hK _ _ ?_; clear hK K)
  dsimp only
  have hpl : ps.length = i := by have := congrArg List.length hps; simpa [Nat.min_eq_left hi] using this
  have hones := Tc.ones_psC ps
  by_cases hlt : i < l.length
  · have hx : l[i]? = some l[i] := List.getElem?_eq_getElem hlt
    obtain ⟨A, cap, hr, c0, c1, c2, c3, c4, c5, c6, c7⟩ := hv.get hx
    have hnx : l.take (i + 1) = l.take i ++ [l[i]] := by rw [List.take_add_one, hx, Option.toList_some]
    generalize l[i] = x at *
    have hn2 := Tc.psC_next ps ⟨x, .slice A x.sws.length cap⟩
    have hnl : (ps ++ [⟨x, .slice A x.sws.length cap⟩] : List Tc.L).length = ps.length + 1 := by simp
    have hrok := hr.ok
    (repeat' (first|(with_reducible first|(refine hK _ _ ?_;clear hK K)|(refine hA ?_;clear hA hB A B))|((with_reducible refine gO ?_);(first|((with_reducible refine z25 ?_);intro K hK;(conv=>whnf))|(with_reducible refine z0 ?_)))|((first|((with_reducible refine gV ?_);(((with_reducible refine NV.i64 ?s ?_);case s=>omega)))|((with_reducible refine gI ?_);(((with_reducible refine NIf.decY ?s ?_);case s=>omega)))|(with_reducible refine gN ?_;first|refine NN.cast ?_|refine NN.a5 ?_|refine NN.keep ?_)|((with_reducible refine gH ?_;refine NH.mk ?s ?_);case s=>(and_intros<;>first|with_reducible rfl|((with_reducible refine gOnes ?_);rfl)|((with_reducible refine gLen ?_);rfl)|omega))|(with_reducible refine NLd.of (by with_reducible assumption) ?_))<;>(conv=>whnf))|((with_reducible refine gX ?_);(first|(with_reducible first|refine z3 ?_|refine z4 ?_|refine z5 ?_|refine z6 ?_)|((with_reducible refine z29 ?_);intro A B hA hB;(conv=>whnf))))|(with_reducible first|refine z1 ?_|refine z2 ?_|refine z9 ?_)|((intro _;skip)<;>(conv=>whnf))))
    rename_i w2
    refine st_round (w2, i + 1, ps ++ [⟨x, .slice A x.sws.length cap⟩]) ⟨by show i + 1 ≤ l.length; omega, by rw [hnx, ← hps]; exact List.map_append, fun p hp => ?_⟩ (by show l.length - (i + 1) < l.length - i; omega) ?_ ?_
    · rcases List.mem_append.1 hp with hp | hp
      · exact hall p hp
      · rw [List.mem_singleton.1 hp]; exact hr
    · repeat (first|exact FitsSl.nil|refine FitsSl.any ?_|refine FitsSl.cons (Fit1.int (by first | rfl | omega)) ?_|refine FitsSl.cons (Fit1.same (by intro h; cases h) (by with_reducible rfl)) ?_|refine FitsSl.cons (Fit1.sl rfl) ?_)
    · show MemFits _ [hpB F, ⟨addrOf w2, Tc.psC (ps ++ [⟨x, .slice A x.sws.length cap⟩]), .row w2 32 8 (ps ++ [(⟨x, .slice A x.sws.length cap⟩ : Tc.L)]).length⟩]
      rw [hn2, hnl]
      exact MemFits.pre 2 rfl
  · have hii : i = l.length := by omega
    rw [hii, List.take_length] at hps
    (repeat' (first|(with_reducible first|(refine hK _ _ ?_;clear hK K)|(refine hB ?_;clear hA hB A B)|(refine hK _ ?_;clear hK K))|((with_reducible refine gO ?_);(first|((with_reducible refine z25 ?_);intro K hK;(conv=>whnf))|(with_reducible refine z0 ?_)))|((first|((with_reducible refine gI ?_);(((with_reducible refine NIf.decN ?s ?_);case s=>omega)))|((with_reducible refine gH ?_;refine NH.mk ?s ?_);case s=>(and_intros<;>omega)))<;>(conv=>whnf))|((with_reducible refine gX ?_);(first|(with_reducible first|refine z3 ?_|refine z4 ?_|refine z7 ?_|refine z8 ?_)|((with_reducible refine z29 ?_);intro A B hA hB;(conv=>whnf))))|(with_reducible first|refine z1 ?_|refine z2 ?_|refine z10 ?_|refine z11 ?_|refine z19 ?_)|((with_reducible refine gR ?_);((refine z31 rfl ?_);intro K hK;(conv=>whnf)))))
    exact ⟨w, ps, hps, hall, rfl, MemFits.eq rfl⟩
theorem refsame41_c (F : Heap) (a b : List Tc.C) (u v : Value) (hu : Tc.Row F u a) (hv : Tc.Row F v b) (ha : a.length ≤ 1000) (hb : b.length ≤ 1000) (hsa : ∀ c ∈ a, c.sws.length ≤ 1000) (hsb : ∀ c ∈ b, c.sws.length ≤ 1000) :
    NCall Tryd.prog 8 [.hs u a.length, .hs v b.length] [hpB F] fun r m => r = .bool (decide (a = b)) ∧ m = [hpB F] := by
  refine NCall.fits (K := fun r m => r = .bool (decide (a = b)) ∧ MemFits m [hpB F]) ?_ fun r m' h => ⟨r, _, rfl, h.2, h.1, rfl⟩
  have hok := hu.ok
  have hok2 := hv.ok
  refine ncall_of Tryd.func8 rfl (by decide) ?_
  by_cases hl : a.length = b.length
  · rw [hl] at hok ⊢
    (repeat' (first|(with_reducible first|(refine hK _ _ ?_;clear hK K)|(refine hB ?_;clear hA hB A B)|(refine hK _ ?_;clear hK K))|((with_reducible refine gO ?_);(first|((with_reducible refine z25 ?_);intro K hK;(conv=>whnf))|(with_reducible refine z0 ?_)))|((first|((with_reducible refine gI ?_);((((with_reducible refine NIf.no ?s ?_);case s=>(simp ;done)))))|((with_reducible refine gH ?_;refine NH.mk ?s ?_);case s=>(and_intros<;>omega)))<;>(conv=>whnf))|((with_reducible refine gX ?_);(first|(with_reducible first|refine z3 ?_|refine z4 ?_|refine z5 ?_|refine z6 ?_)|((with_reducible refine z29 ?_);intro A B hA hB;(conv=>whnf))))|(with_reducible first|refine z1 ?_|refine z2 ?_)|((with_reducible refine gF ?_);((refine z33 rfl ?_);intro K hK;(conv=>whnf)))))
    refine st_auto (α := Nat) (fun i => i ≤ b.length ∧ a.take i = b.take i) (fun i => [.keep, .keep, .keep, .keep, .set (.bool false), .set (.int .i64 i), .drop, .drop, .keep, .keep, .keep, .keep, .keep, .drop, .drop, .drop, .drop, .drop, .drop, .drop, .drop, .drop, .drop, .drop, .drop, .drop, .drop, .drop, .drop, .drop, .drop, .drop, .drop, .drop, .drop, .drop, .drop, .drop, .drop, .drop, .drop, .drop, .drop, .drop, .drop, .drop, .drop, .drop, .drop, .drop, .drop, .drop, .drop, .drop, .drop, .drop, .drop, .drop, .drop, .drop, .drop, .drop, .drop, .drop, .drop, .drop, .drop, .drop, .drop, .drop, .drop, .drop, .drop, .drop, .drop, .drop, .drop, .drop, .drop, .drop, .drop, .drop]) (fun _ => []) (fun i => b.length - i) 0 ⟨Nat.zero_le _, rfl⟩ ?_ (MemFits.eq rfl) ?_
    · repeat (first|exact FitsSl.nil|refine FitsSl.any ?_|refine FitsSl.cons (Fit1.int (by first | rfl | omega)) ?_|refine FitsSl.cons (Fit1.bool rfl) ?_|refine FitsSl.cons (Fit1.same (by intro h; cases h) (by with_reducible rfl)) ?_)
    (intro i ⟨hi, heq⟩; intro K hK; (conv=>whnf); refine hK _ _ ?_; clear hK K)
    by_cases hlt : i < b.length
    · have hx : a[i]? = some (a[i]'(by omega)) := List.getElem?_eq_getElem (by omega)
      have hy : b[i]? = some b[i] := List.getElem?_eq_getElem hlt
      obtain ⟨A1, cap1, hr1, c0, c1, c2, c3, c4, c5, c6, c7⟩ := hu.get hx
      obtain ⟨A2, cap2, hr2, d0, d1, d2, d3, d4, d5, d6, d7⟩ := hv.get hy
      have h1 := hsa _ (List.mem_of_getElem? hx)
      have h2 := hsb _ (List.mem_of_getElem? hy)
      have hnx : a[i]'(by omega) = b[i] → a.take (i + 1) = b.take (i + 1) := fun e => by rw [List.take_add_one, List.take_add_one, hx, hy, heq, e]
      have hno : a[i]'(by omega) ≠ b[i] → a ≠ b := fun e h => by subst h; exact e rfl
      generalize a[i]'(by omega) = x at *
      generalize b[i] = y at *
      have cS := same13_c F x.sws y.sws _ _ hr1 hr2 (by omega) (by omega)
      have hok3 := hr1.ok
      have hok4 := hr2.ok
      by_cases hxy : x = y
      · subst hxy
        rw [decide_eq_true rfl] at cS
        (repeat' (first|(with_reducible first|(refine hK _ _ ?_;clear hK K)|(refine hA ?_;clear hA hB A B)|(refine hB ?_;clear hA hB A B)|(refine hK _ ?_;clear hK K))|((with_reducible refine gO ?_);(first|((with_reducible first|refine z25 ?_|refine z26 ?_);intro K hK;(conv=>whnf))|(with_reducible refine z0 ?_)))|((first|((with_reducible refine gV ?_);(((with_reducible refine NV.i64 ?s ?_);case s=>omega)))|((with_reducible refine gI ?_);(first|(((with_reducible refine NIf.no ?s ?_);case s=>(simp ;done)))|((with_reducible refine NIf.decY ?s ?_);case s=>omega)))|(with_reducible refine gN ?_;first|refine NN.cast ?_|refine NN.a5 ?_|refine NN.keep ?_)|((with_reducible refine gH ?_;refine NH.mk ?s ?_);case s=>(and_intros<;>first|with_reducible rfl|((with_reducible refine gOnes ?_);rfl)|((with_reducible refine gLen ?_);rfl)|((with_reducible refine gKept ?_);exact rfl)|omega))|((with_reducible refine gC ?_;refine NCall.isF 15 ?_);refine NCall.subE [0] (cS) rfl (by decide) rfl rfl ?_)|(with_reducible refine NLd.of (by with_reducible assumption) ?_))<;>(conv=>whnf))|(with_reducible refine gNRK ?_;refine st_ordSout ?_)|((with_reducible refine gNOK ?_);(first|(refine st_ordK1 rfl (by kernel_rfl) rfl ?_; intro K hK; (conv=>whnf))|(refine st_ordK0 rfl (by kernel_rfl) ?_)|(refine st_ordKA rfl rfl (by kernel_rfl) (by intro h; cases h) ?_)))|((with_reducible refine gNEK ?_);(first|(refine st_eachK ?_ ?_; (intro K hK; (conv=>whnf)))|exact st_eachK0))|((with_reducible refine gX ?_);(first|(refine st_orderS [] rfl rfl (by kernel_rfl) _ rfl ?_)|(with_reducible first|refine z3 ?_|refine z4 ?_|refine z5 ?_|refine z6 ?_)|((with_reducible refine z29 ?_);intro A B hA hB;(conv=>whnf))))|(with_reducible first|refine z1 ?_|refine z2 ?_|refine z9 ?_)|((intro _;skip)<;>(conv=>whnf))))
        all_goals refine st_round (i + 1) ⟨hlt, hnx rfl⟩ (by omega) ?_ (MemFits.pre 1 rfl)
        all_goals repeat (first|exact FitsSl.nil|refine FitsSl.any ?_|refine FitsSl.cons (Fit1.int (by first | rfl | omega)) ?_|refine FitsSl.cons (Fit1.bool rfl) ?_|refine FitsSl.cons (Fit1.same (by intro h; cases h) (by with_reducible rfl)) ?_)
      · (repeat' (first|(with_reducible first|(refine hK _ _ ?_;clear hK K)|(refine hA ?_;clear hA hB A B)|(refine hB ?_;clear hA hB A B)|(refine hK _ ?_;clear hK K))|((with_reducible refine gO ?_);(first|((with_reducible first|refine z25 ?_|refine z26 ?_);intro K hK;(conv=>whnf))|(with_reducible refine z0 ?_)))|((first|((with_reducible refine gV ?_);(((with_reducible refine NV.i64 ?s ?_);case s=>omega)))|((with_reducible refine gI ?_);(first|with_reducible refine NIf.not_ ?_|((with_reducible refine NIf.decY ?s ?_);case s=>first|assumption|omega)|((with_reducible refine NIf.decN ?s ?_);case s=>assumption)|((with_reducible refine NIf.yes ?s ?_);case s=>rfl)|(with_reducible refine NIf.dec (fun _=>?_) (fun _=>?_))))|(with_reducible refine gN ?_;first|refine NN.cast ?_|refine NN.a5 ?_|refine NN.keep ?_)|((with_reducible refine gH ?_;refine NH.mk ?s ?_);case s=>(and_intros<;>first|with_reducible rfl|((with_reducible refine gOnes ?_);rfl)|((with_reducible refine gLen ?_);rfl)|((with_reducible refine gKept ?_);exact rfl)|omega))|((with_reducible refine gC ?_;refine NCall.isF 15 ?_);refine NCall.subE [0] (cS) rfl (by decide) rfl rfl ?_)|(with_reducible refine NLd.of (by with_reducible assumption) ?_))<;>(conv=>whnf))|(with_reducible refine gNRK ?_;refine st_ordSout ?_)|((with_reducible refine gNOK ?_);(first|(refine st_ordK1 rfl (by kernel_rfl) rfl ?_; intro K hK; (conv=>whnf))|(refine st_ordK0 rfl (by kernel_rfl) ?_)|(refine st_ordKA rfl rfl (by kernel_rfl) (by intro h; cases h) ?_)))|((with_reducible refine gNEK ?_);(first|(refine st_eachK ?_ ?_; (intro K hK; (conv=>whnf)))|exact st_eachK0))|((with_reducible refine gX ?_);(first|(refine st_orderS [] rfl rfl (by kernel_rfl) _ rfl ?_)|(with_reducible first|refine z3 ?_|refine z4 ?_|refine z5 ?_|refine z6 ?_|refine z8 ?_)|((with_reducible refine z29 ?_);intro A B hA hB;(conv=>whnf))))|(with_reducible first|refine z1 ?_|refine z2 ?_|refine z9 ?_|refine z12 ?_|refine z13 ?_|refine z20 ?_)|((with_reducible refine gR ?_);((refine z31 rfl ?_);intro K hK;(conv=>whnf)))|((intro _;skip)<;>(conv=>whnf))))
        all_goals first
          | exact ⟨by rw [decide_eq_false (hno hxy)], MemFits.pre 1 rfl⟩
          | exact (hxy (Tc.C.eq (by omega) (by omega) (by omega) (by omega) (by assumption) (by omega) (by omega) (by omega))).elim
    · have hkl : i = b.length := by omega
      subst hkl
      rw [List.take_length, ← hl, List.take_length] at heq
      (repeat' (first|(with_reducible first|(refine hK _ _ ?_;clear hK K)|(refine hB ?_;clear hA hB A B)|(refine hK _ ?_;clear hK K))|((with_reducible refine gO ?_);(first|((with_reducible refine z25 ?_);intro K hK;(conv=>whnf))|(with_reducible refine z0 ?_)))|((first|((with_reducible refine gI ?_);(((with_reducible refine NIf.decN ?s ?_);case s=>omega)))|((with_reducible refine gH ?_;refine NH.mk ?s ?_);case s=>(and_intros<;>omega)))<;>(conv=>whnf))|((with_reducible refine gX ?_);(first|(with_reducible first|refine z3 ?_|refine z4 ?_|refine z7 ?_|refine z8 ?_)|((with_reducible refine z29 ?_);intro A B hA hB;(conv=>whnf))))|(with_reducible first|refine z1 ?_|refine z2 ?_|refine z10 ?_|refine z11 ?_|refine z19 ?_)|((with_reducible refine gR ?_);((refine z31 rfl ?_);intro K hK;(conv=>whnf)))))
      all_goals exact ⟨by rw [heq]; simp, MemFits.pre 1 rfl⟩
  · (repeat' (first|(with_reducible first|(refine hK _ _ ?_;clear hK K)|(refine hA ?_;clear hA hB A B)|(refine hK _ ?_;clear hK K))|((with_reducible refine gO ?_);(first|((with_reducible refine z25 ?_);intro K hK;(conv=>whnf))|(with_reducible refine z0 ?_)))|((first|((with_reducible refine gI ?_);(first|with_reducible refine NIf.not_ ?_|((with_reducible refine NIf.decN ?s ?_);case s=>omega)))|((with_reducible refine gH ?_;refine NH.mk ?s ?_);case s=>(and_intros<;>omega)))<;>(conv=>whnf))|((with_reducible refine gX ?_);(first|(with_reducible first|refine z3 ?_|refine z4 ?_|refine z8 ?_)|((with_reducible refine z29 ?_);intro A B hA hB;(conv=>whnf))))|(with_reducible first|refine z1 ?_|refine z2 ?_|refine z12 ?_)|((with_reducible refine gR ?_);((refine z31 rfl ?_);intro K hK;(conv=>whnf)))|((with_reducible refine gF ?_);((refine z33 rfl ?_);intro K hK;(conv=>whnf)))))
    all_goals first
      | exact ⟨by rw [decide_eq_false (fun e => hl (by rw [e]))], MemFits.pre 1 rfl⟩
      | (exfalso; omega)
end Go.Proofs.YtniahabpedamcaaDoor


