/-
  Trees: packets in order, by the library; are they the same?; policy.Run.
-/
import Derived.Test.YtaolcaggdddkpaaGreatJ21
import Derived.Test.YtaolcaggdddkpaaGreatJ22
namespace Go.Proofs.YtaolcaggdddkpaaGreat
open Go.Sx
set_option maxRecDepth 20000
set_option linter.unusedSimpArgs false
set_option linter.unusedVariables false
set_option maxHeartbeats 4000000
set_option linter.unusedVariables false
theorem first31_c (x y : Po.S) : NCall Tryz.prog 42 [.agg x.av, .agg y.av] [hpB noHeap] fun r _ => r = .int .i64 (Po.cmpS x y) := by
  refine NCall.fits (K := fun r m => r = .int .i64 (Po.cmpS x y)) ?_ fun r m' h => ⟨r, _, rfl, MemFits.eq rfl, h⟩
  have c0 := compare27_c x.port y.port
  have k1 : ∀ b1 b2 : Nat, NCall Tryz.prog 74 [.raw (.slice (some ((⟨b1, 0, none⟩ : Addr).add 1)) 4 4), .raw (.slice (some ((⟨b2, 0, none⟩ : Addr).add 1)) 4 4)] [hpB noHeap, ⟨⟨b1, 0, none⟩, x.av, .var 56⟩, ⟨⟨b2, 0, none⟩, y.av, .var 56⟩] fun r m => r = .int .i64 (Po.cmpL [x.p0, x.p1, x.p2, x.p3] [y.p0, y.p1, y.p2, y.p3]) ∧ m = [hpB noHeap, ⟨⟨b1, 0, none⟩, x.av, .var 56⟩, ⟨⟨b2, 0, none⟩, y.av, .var 56⟩] := fun b1 b2 =>
    NCall.keep (cmpL_c (addF (addF noHeap ⟨b1, 0, none⟩ (denL x.av)) ⟨b2, 0, none⟩ (denL y.av)) (.slice (some ((⟨b1, 0, none⟩ : Addr).add 1)) 4 4) (.slice (some ((⟨b2, 0, none⟩ : Addr).add 1)) 4 4) [x.p0, x.p1, x.p2, x.p3] [y.p0, y.p1, y.p2, y.p3]
      (RowF.mono addF.old (fun _ _ h => h) (Po.part_row addF.new)) (Po.part_row addF.new) rfl (by simp)) rfl (MemFits.freezeVar.trans MemFits.freezeVar) rfl fun r mL' h => ⟨r, rfl, h.1, rfl⟩
  rw [Po.cmpS_L]
  generalize Po.cmpL [x.p0, x.p1, x.p2, x.p3] [y.p0, y.p1, y.p2, y.p3] = c2 at *
  generalize Po.cmpI x.port y.port = c1 at *
  have co : ∀ b : Nat, NCall Tryz.prog 72 [.sl 0 (.slice (some ⟨b, 0, none⟩) 2 2) 2] [⟨⟨b, 0, none⟩, [.int .i64 c1, .int .i64 c2], .row (.slice (some ⟨b, 0, none⟩) 2 2) 3 1 2⟩] fun r m => r = .int .i64 (if c1 ≠ 0 then c1 else c2) ∧ m = [⟨⟨b, 0, none⟩, [.int .i64 c1, .int .i64 c2], .row (.slice (some ⟨b, 0, none⟩) 2 2) 3 1 2⟩] := fun b => or27_c _ _ c1 c2
  refine ncall_of Tryz.func42 rfl (by decide) ?_
  obtain ⟨a0, a, b, c, d⟩ := x
  obtain ⟨a0', a', b', c', d'⟩ := y
  unfold Po.S.av at *
  simp only at *
  (repeat' (first|(with_reducible first|(refine hK _ _ ?_;clear hK K)|(refine hK _ ?_;clear hK K))|((with_reducible refine gO ?_);(first|((with_reducible refine z25 ?_);intro K hK;(conv=>whnf))|(with_reducible refine z0 ?_)))|((first|((with_reducible refine gN ?_);(with_reducible refine NN.a5 ?_))|((with_reducible refine gH ?_);((with_reducible refine NH.mk ?s ?_);case s=>(and_intros<;>first|((with_reducible refine gLen ?_);rfl)|((with_reducible refine gKept ?_);exact rfl)|omega|rfl)))|((with_reducible refine gC ?_);(first|((with_reducible refine NCall.isF 73 ?_);refine NCall.pureE (c0) ?_)|((with_reducible refine NCall.isF 74 ?_);refine NCall.subE [0, 1, 2] (k1 _ _) rfl (by decide) rfl rfl ?_)|((with_reducible refine NCall.isF 72 ?_);refine NCall.subE [3] (co _) rfl (by decide) rfl rfl ?_))))<;>(conv=>whnf))|((with_reducible refine gNRK ?_);((with_reducible refine st_ordSout ?_)))|((with_reducible refine gNOK ?_);(first|(refine st_ordK1 rfl (by kernel_rfl) rfl ?_; intro K hK; (conv=>whnf))|(refine st_ordK0 rfl (by kernel_rfl) ?_)|(refine st_ordKA rfl rfl (by kernel_rfl) (by intro h; cases h) ?_)))|((with_reducible refine gNEK ?_);(first|(refine st_eachK ?_ ?_; (intro K hK; (conv=>whnf)))|exact st_eachK0))|((with_reducible refine gX ?_);(first|(refine st_orderS [] rfl rfl (by kernel_rfl) _ rfl ?_)|(with_reducible first|refine z3 ?_|refine z4 ?_|refine z8 ?_)))|(with_reducible first|refine z1 ?_|refine z2 ?_)|((with_reducible refine gR ?_);((refine z31 rfl ?_);intro K hK;(conv=>whnf)))|((with_reducible refine gF ?_);((refine z33 rfl ?_);intro K hK;(conv=>whnf)))|((intro _;skip)<;>(conv=>whnf))))
  all_goals rfl
theorem first31_x (x y : Po.S) (W : World) : Calls Tryz.prog 42 #[.agg x.vs.toArray, .agg y.vs.toArray] W fun e w' => e = .returned (.int .i64 (Po.cmpS x y)) ∧ ∃ (q : Nat) (os : Array Obj), w' = Go.Sort.grow (W.drewN q) os := by
  have h := (NCall_iff.1 (first31_c x y)).2 W (memOk_none W)
  have h := Calls_up h fun e w' ⟨r, m', _, he, _⟩ => ⟨_, he⟩
  refine h.mono fun e w' ⟨⟨r, m', hr, he, _, hf, _⟩, hd⟩ => ?_
  subst hr
  refine ⟨he, Fr.grow ⟨hf.os, hf.tape, hf.output, hf.size, fun k hk _ => hf.block k hk fun ⟨k', h1, h2, _⟩ => ?_⟩ hd⟩
  rw [List.mem_singleton] at h1
  subst h1
  cases h2
theorem sortf_c (v : Value) (t : TypeId) (L : List Po.S) (hl : L.length < 4611686018427387904) :
    NCall Tryz.prog 41 [.sl 0 v L.length, .fn 42 [] []] [⟨addrOf v, Po.savs L, .row v t 5 L.length⟩] fun r m => r = .tup [] ∧ ∃ L' : List Po.S, L'.Perm L ∧ L'.Pairwise (fun x y => ¬ Po.ahead y x) ∧ m = [⟨addrOf v, Po.savs L', .row v t 5 L.length⟩] := by
  rw [NCall_iff]
  refine ⟨Go.Sx.enters_of Tryz.func41 rfl (by decide), fun w hm => ?_⟩
  obtain ⟨⟨h1, h2⟩, h3⟩ := hm.holds _ (List.mem_singleton.2 rfl)
  rcases h2 with ⟨rfl, hn⟩ | ⟨g, cap, cur, rfl, _, hg, hle, hcap, hsz, htk⟩
  · have e : L = [] := List.length_eq_zero_iff.1 hn
    subst e
    refine (AnyF.slices_SortFunc_none Tryz.sortSent none 0 _ w).mono fun e w' ⟨he, hw⟩ => ?_
    subst hw
    exact ⟨.tup [], _, ⟨rfl, [], List.Perm.refl _, List.Pairwise.nil, rfl⟩, he, hm, Fr.refl _ _, Fresh.self _ _⟩
  · rw [Po.savs_den] at htk
    have hlt : g < w.heap.size := (Array.getElem?_eq_some_iff.1 hg).1
    have hH : Go.Sort.HoldsK Po.S.vs 5 w g 0 L.toArray := by
      unfold Go.Sort.HoldsK
      rw [Po.flatK_eq]
      exact holds_of_blockV hg (by rw [Po.flat_len]; exact htk)
    have eg : ∀ args w, (callFunc 42 args).run Tryz.prog w = .ok (.enter 42 args) w := Go.Sx.enters_of Tryz.func42 rfl (by decide)
    have hcmp : Go.Proofs.CmpLays Tryz.prog 42 #[] Po.S.vs 5 Po.cmpS g 0 L.toArray.size w := fun m os dk _ x y => by
      simpa using first31_x x y _
    refine (AnyQ.slices_SortFunc Tryz.sortSent 5 (fun w => Go.Sx.run_isAgg (b := true) (by kernel_rfl) w) (fun w => Go.Sx.run_sizeOf (s := 5) (by kernel_rfl) w) Po.S.vs (fun _ => rfl) (fun x v hv => by simp [Po.S.vs] at hv; rcases hv with rfl | rfl | rfl | rfl | rfl <;> rfl) Po.cmpS Po.swoS 42 #[] g 0 cap L.toArray w eg hcmp hH hlt (by simpa using hl)).mono fun e w' ⟨he, d', n, os, hp, hs, hw⟩ => ?_
    have hperm : d'.toList.Perm L := by
      have h4 := hp.2.2
      have e1 : d'.extract 0 L.toArray.size = d' := by
        have := hp.1
        rw [← this, Array.extract_size]
      rw [e1] at h4
      simpa using h4
    have hsort : d'.toList.Pairwise (fun x y => ¬ Po.ahead y x) := by
      rw [List.pairwise_iff_getElem]
      intro i j hi hj hij
      have hsz2 := hp.1
      have h4 := hs i j (Nat.zero_le _) hij (by rw [← hsz2]; simpa using hj)
      rw [Po.lt_ahead, decide_eq_false_iff_not] at h4
      rw [getElem!_pos _ j (by simpa using hj), getElem!_pos _ i (by simpa using hi)] at h4
      simpa using h4
    have hlen : d'.toList.length = L.length := hperm.length_eq
    have hw' : w' = Go.Sort.grow (Go.Sort.putRow id (Go.Sort.ahead w n) g 0 (d'.toList.flatMap Po.S.vs).toArray) os := by
      rw [hw]
      unfold Go.Proofs.sortWorldK Go.Sort.putRowK
      rw [show d' = d'.toList.toArray from rfl, Po.flatK_eq]
    have hgr := grownBy_sortedV (w := w) (g := g) (n := n) (os := os) (d'.toList.flatMap Po.S.vs).toArray
    have hhp := heap_sortedV (n := n) (os := os) (d'.toList.flatMap Po.S.vs).toArray hg
    rw [← hw'] at hgr hhp
    have hfl : (d'.toList.flatMap Po.S.vs).length = L.length * 5 := by rw [Po.flat_len, hlen]
    have hown : w'.ownsRow 0 t 5 (.slice (some ⟨g, 0, none⟩) L.length cap) L.length (denL (Po.savs d'.toList)) := by
      rw [Po.savs_den]
      exact ⟨by rw [hfl], .inr ⟨g, cap, _, rfl, Nat.zero_le _, hhp, hle, hcap, by simp [Go.Sort.putCells, hsz], by rw [← hfl]; exact take_putCellsV cur _ (by rw [hfl, hsz]; exact Nat.mul_le_mul_right 5 hle)⟩⟩
    have hfr := Fr.grown hgr
    refine ⟨.tup [], _, ⟨rfl, d'.toList, hperm, hsort, rfl⟩, he, ?_, ?_, ?_⟩
    · exact hm.set (i := 0) (k := ⟨addrOf (.slice (some ⟨g, 0, none⟩) L.length cap), Po.savs d'.toList, .row (.slice (some ⟨g, 0, none⟩) L.length cap) t 5 L.length⟩) hfr.size rfl rfl
        (fun b hb hlt => hfr.block b hlt fun e => hb e) ⟨hown, rfl⟩ (fun F e => by cases e) (.inr (.inl rfl))
    · exact ⟨hfr.os, hfr.tape, hfr.output, hfr.size, fun k hk hS => hfr.block k hk fun e => hS ⟨_, List.mem_singleton.2 rfl, rfl, e⟩⟩
    · exact Fresh.set (i := 0) (Fresh.self _ _) (k := ⟨addrOf (.slice (some ⟨g, 0, none⟩) L.length cap), Po.savs d'.toList, .row (.slice (some ⟨g, 0, none⟩) L.length cap) t 5 L.length⟩) (fun F e => by cases e) fun b hb => .inl ⟨_, List.mem_singleton.2 rfl, rfl, hb⟩
/-- What rises is not made shorter. -/
theorem compacts_c (F : Heap) (v : Value) (l : List Po.S) (hv : Po.SRow F v l) (hl : l.length ≤ 4611686018427387904) (hr : Po.Rising l) :
    NCall Tryz.prog 90 [.hs v l.length] [hpB F] fun r m => r = .hs v l.length ∧ m = [hpB F] := by
  have hok := hv.ok
  refine ncall_of Tryz.func90 rfl (by decide) ?_
  by_cases h2 : l.length < 2
  · (repeat' (first|(with_reducible first|(refine hK _ _ ?_;clear hK K)|(refine hA ?_;clear hA hB A B)|(refine hK _ ?_;clear hK K))|((with_reducible refine gO ?_);(first|((with_reducible refine z25 ?_);intro K hK;(conv=>whnf))|(with_reducible refine z0 ?_)))|((first|((with_reducible refine gI ?_);(((with_reducible refine NIf.decY ?s ?_);case s=>omega)))|((with_reducible refine gH ?_);((with_reducible refine NH.mk ?s ?_);case s=>(and_intros<;>omega))))<;>(conv=>whnf))|((with_reducible refine gX ?_);(first|(with_reducible first|refine z3 ?_|refine z4 ?_|refine z8 ?_)|((with_reducible refine z29 ?_);intro A B hA hB;(conv=>whnf))))|(with_reducible first|refine z1 ?_|refine z2 ?_|refine z12 ?_)|((with_reducible refine gR ?_);((refine z31 rfl ?_);intro K hK;(conv=>whnf)))|((with_reducible refine gF ?_);((refine z33 rfl ?_);intro K hK;(conv=>whnf)))))
    all_goals first | (exfalso; omega) | exact ⟨rfl, rfl⟩
  (repeat' (first|(with_reducible first|(refine hK _ _ ?_;clear hK K)|(refine hB ?_;clear hA hB A B)|(refine hK _ ?_;clear hK K))|((with_reducible refine gO ?_);(first|((with_reducible refine z25 ?_);intro K hK;(conv=>whnf))|(with_reducible refine z0 ?_)))|((first|((with_reducible refine gI ?_);(((with_reducible refine NIf.decN ?s ?_);case s=>omega)))|((with_reducible refine gH ?_);((with_reducible refine NH.mk ?s ?_);case s=>(and_intros<;>omega))))<;>(conv=>whnf))|((with_reducible refine gX ?_);(first|(with_reducible first|refine z3 ?_|refine z4 ?_|refine z5 ?_|refine z6 ?_)|((with_reducible refine z29 ?_);intro A B hA hB;(conv=>whnf))))|(with_reducible first|refine z1 ?_|refine z2 ?_)|((with_reducible refine gF ?_);((refine z33 rfl ?_);intro K hK;(conv=>whnf)))))
  all_goals first | (exfalso; omega) | skip
  refine st_auto (α := Nat) (fun k => 1 ≤ k ∧ k ≤ l.length) (fun k => [.keep, .keep, .drop, .set (.int .i64 k), .drop, .drop, .keep, .keep, .keep, .keep, .drop, .drop, .drop, .drop, .drop, .drop, .drop, .drop, .drop, .drop, .drop, .drop, .drop, .drop, .drop, .drop, .drop, .drop, .drop, .drop, .drop, .drop, .drop, .drop, .drop, .drop, .drop, .drop, .drop, .drop, .drop, .drop, .drop, .drop, .drop, .drop, .drop, .drop, .drop, .drop, .drop, .drop, .drop, .drop, .drop, .drop, .drop, .drop, .drop, .drop, .keep]) (fun _ => []) (fun k => l.length - k) 1 ⟨Nat.le_refl _, by omega⟩ ?_ (MemFits.eq rfl) ?_
  · repeat (first|exact FitsSl.nil|refine FitsSl.any ?_|refine FitsSl.cons (Fit1.int (by first | rfl | omega)) ?_|refine FitsSl.cons (Fit1.bool rfl) ?_|refine FitsSl.cons (Fit1.same (by intro h; cases h) (by with_reducible rfl)) ?_)
  (intro k ⟨hk1, hk⟩; intro K hK; (conv=>whnf); refine hK _ _ ?_; clear hK K)
  by_cases hlt : k < l.length
  · have hlt2 : k - 1 < l.length := by omega
    obtain ⟨g0, g1, g2, g3, g4⟩ := RowF.get5 (f0 := fun s : Po.S => .int .i64 s.port) (f1 := fun s => .int .i64 s.p0) (f2 := fun s => .int .i64 s.p1) (f3 := fun s => .int .i64 s.p2) (f4 := fun s => .int .i64 s.p3) hv hlt
    obtain ⟨e0, e1, e2, e3, e4⟩ := RowF.get5 (f0 := fun s : Po.S => .int .i64 s.port) (f1 := fun s => .int .i64 s.p0) (f2 := fun s => .int .i64 s.p1) (f3 := fun s => .int .i64 s.p2) (f4 := fun s => .int .i64 s.p3) hv hlt2
    have hah : Po.ahead l[k - 1] l[k] := List.pairwise_iff_getElem.1 hr (k - 1) k hlt2 hlt (by omega)
    have hne : l[k] ≠ l[k - 1] := fun e => by rw [e] at hah; exact Po.ahead_irrefl _ hah
    clear hah hr
    generalize l[k] = x at *
    generalize l[k - 1] = y at *
    have en : ((k : Int) - 1).toNat = k - 1 := by omega
    obtain ⟨xp, xa, xb, xc, xd⟩ := x
    obtain ⟨yp, ya, yb, yc, yd⟩ := y
    have hnb : (decide (xp = yp) && (decide (xa = ya) && (decide (xb = yb) && (decide (xc = yc) && (decide (xd = yd) && true))))) = false := by
      refine Bool.eq_false_iff.2 fun h => hne ?_
      simp only [Bool.and_eq_true, decide_eq_true_eq, and_true] at h
      obtain ⟨rfl, rfl, rfl, rfl, rfl⟩ := h
      rfl
    dsimp only at *
    rw [← en] at e0 e1 e2 e3 e4
    (repeat' (first|(with_reducible first|(refine hK _ _ ?_;clear hK K)|(refine hA ?_;clear hA hB A B)|(refine hB ?_;clear hA hB A B)|(refine hK _ ?_;clear hK K))|((with_reducible refine gO ?_);(first|((with_reducible refine z25 ?_);intro K hK;(conv=>whnf))|(with_reducible refine z0 ?_)))|((first|((with_reducible refine gV ?_);(((with_reducible refine NV.i64 ?s ?_);case s=>omega)))|((with_reducible refine gI ?_);(first|((with_reducible refine NIf.decY ?s ?_);case s=>omega)|((with_reducible refine NIf.no ?s ?_);case s=>assumption)))|((with_reducible refine gN ?_);(with_reducible first|refine NN.cast ?_|refine NN.keep ?_))|((with_reducible refine gH ?_);((with_reducible refine NH.mk ?s ?_);case s=>(and_intros<;>omega)))|(with_reducible refine NLd.of (by with_reducible assumption) ?_))<;>(conv=>whnf))|((with_reducible refine gNRH ?_);((with_reducible refine st_ordRout ?_)))|((with_reducible refine gNOH ?_);(first|(refine st_ordH1 rfl (by kernel_rfl) rfl ?_; intro K hK; (conv=>whnf))|(refine st_ordH0 rfl (by kernel_rfl) ?_)))|((with_reducible refine gX ?_);(first|(refine st_orderR rfl (by kernel_rfl) _ rfl ?_)|(with_reducible first|refine z3 ?_|refine z4 ?_|refine z5 ?_|refine z6 ?_)|((with_reducible refine z29 ?_);intro A B hA hB;(conv=>whnf))))|(with_reducible first|refine z1 ?_|refine z2 ?_|refine z9 ?_)|((refine NFlat_iff.2 ⟨⟨?s1,?s2⟩,?_⟩;(case s1=>decide +kernel);(case s2=>decide +kernel))<;>(conv=>whnf))))
    refine st_round (k + 1) ⟨by omega, hlt⟩ (by omega) ?_ (MemFits.eq rfl)
    repeat (first|exact FitsSl.nil|refine FitsSl.any ?_|refine FitsSl.cons (Fit1.int (by first | rfl | omega)) ?_|refine FitsSl.cons (Fit1.bool rfl) ?_|refine FitsSl.cons (Fit1.same (by intro h; cases h) (by with_reducible rfl)) ?_)
  · (repeat' (first|(with_reducible first|(refine hK _ _ ?_;clear hK K)|(refine hB ?_;clear hA hB A B)|(refine hK _ ?_;clear hK K))|((with_reducible refine gO ?_);(first|((with_reducible refine z25 ?_);intro K hK;(conv=>whnf))|(with_reducible refine z0 ?_)))|((first|((with_reducible refine gI ?_);(((with_reducible refine NIf.decN ?s ?_);case s=>omega)))|((with_reducible refine gH ?_);((with_reducible refine NH.mk ?s ?_);case s=>(and_intros<;>omega))))<;>(conv=>whnf))|((with_reducible refine gX ?_);(first|(with_reducible first|refine z3 ?_|refine z4 ?_|refine z7 ?_|refine z8 ?_)|((with_reducible refine z29 ?_);intro A B hA hB;(conv=>whnf))))|(with_reducible first|refine z1 ?_|refine z2 ?_|refine z10 ?_|refine z11 ?_|refine z19 ?_)|((with_reducible refine gR ?_);((refine z31 rfl ?_);intro K hK;(conv=>whnf)))))
    all_goals first | (exfalso; omega) | exact ⟨rfl, rfl⟩
theorem equals_c (F : Heap) (v w : Value) (a b : List Po.S) (hv : Po.SRow F v a) (hw : Po.SRow F w b) (ha : a.length ≤ 9223372036854775807) (hb : b.length ≤ 9223372036854775807) :
    NCall Tryz.prog 93 [.hs v a.length, .hs w b.length] [hpB F] fun r m => r = .bool (decide (a = b)) ∧ m = [hpB F] := by
  have hok := hv.ok
  have hokw := hw.ok
  refine ncall_of Tryz.func93 rfl (by decide) ?_
  by_cases hl : a.length = b.length
  rotate_left
  · (repeat' (first|(with_reducible first|(refine hK _ _ ?_;clear hK K)|(refine hA ?_;clear hA hB A B)|(refine hK _ ?_;clear hK K))|((with_reducible refine gO ?_);(first|((with_reducible refine z25 ?_);intro K hK;(conv=>whnf))|(with_reducible refine z0 ?_)))|((first|((with_reducible refine gI ?_);(first|with_reducible refine NIf.not_ ?_|((with_reducible refine NIf.decN ?s ?_);case s=>omega)))|((with_reducible refine gH ?_);((with_reducible refine NH.mk ?s ?_);case s=>(and_intros<;>omega))))<;>(conv=>whnf))|((with_reducible refine gX ?_);(first|(with_reducible first|refine z3 ?_|refine z4 ?_|refine z8 ?_)|((with_reducible refine z29 ?_);intro A B hA hB;(conv=>whnf))))|(with_reducible first|refine z1 ?_|refine z2 ?_|refine z12 ?_)|((with_reducible refine gR ?_);((refine z31 rfl ?_);intro K hK;(conv=>whnf)))|((with_reducible refine gF ?_);((refine z33 rfl ?_);intro K hK;(conv=>whnf)))))
    exact ⟨po_boolF (fun e => hl (by rw [e])), rfl⟩
  (repeat' (first|(with_reducible first|(refine hK _ _ ?_;clear hK K)|(refine hB ?_;clear hA hB A B)|(refine hK _ ?_;clear hK K))|((with_reducible refine gO ?_);(first|((with_reducible refine z25 ?_);intro K hK;(conv=>whnf))|(with_reducible refine z0 ?_)))|((first|((with_reducible refine gI ?_);(first|with_reducible refine NIf.not_ ?_|((with_reducible refine NIf.decY ?s ?_);case s=>omega)))|((with_reducible refine gH ?_);((with_reducible refine NH.mk ?s ?_);case s=>(and_intros<;>omega))))<;>(conv=>whnf))|((with_reducible refine gX ?_);(first|(with_reducible first|refine z3 ?_|refine z4 ?_|refine z5 ?_|refine z6 ?_)|((with_reducible refine z29 ?_);intro A B hA hB;(conv=>whnf))))|(with_reducible first|refine z1 ?_|refine z2 ?_)|((with_reducible refine gF ?_);((refine z33 rfl ?_);intro K hK;(conv=>whnf)))))
  refine st_auto (α := Nat) (fun k => k ≤ a.length ∧ ∀ j, j < k → a[j]? = b[j]?) (fun k => [.keep, .keep, .keep, .keep, .drop, .drop, .keep, .keep, .keep, .keep, .keep, .keep, .keep, .set (.int .i64 k), .drop, .drop, .drop, .drop, .drop, .drop, .drop, .drop, .drop, .drop, .drop, .drop]) (fun _ => []) (fun k => a.length - k) 0 ⟨Nat.zero_le _, fun j hj => absurd hj (Nat.not_lt_zero _)⟩ ?_ (MemFits.eq rfl) ?_
  · repeat (first|exact FitsSl.nil|refine FitsSl.any ?_|refine FitsSl.cons (Fit1.int (by first | rfl | omega)) ?_|refine FitsSl.cons (Fit1.bool rfl) ?_|refine FitsSl.cons (Fit1.same (by intro h; cases h) (by with_reducible rfl)) ?_)
  (intro k ⟨hk, hgone⟩; intro K hK; (conv=>whnf); refine hK _ _ ?_; clear hK K)
  by_cases hlt : k < a.length
  · have hlt2 : k < b.length := by omega
    obtain ⟨g0, g1, g2, g3, g4⟩ := RowF.get5 (f0 := fun s : Po.S => .int .i64 s.port) (f1 := fun s => .int .i64 s.p0) (f2 := fun s => .int .i64 s.p1) (f3 := fun s => .int .i64 s.p2) (f4 := fun s => .int .i64 s.p3) hv hlt
    obtain ⟨e0, e1, e2, e3, e4⟩ := RowF.get5 (f0 := fun s : Po.S => .int .i64 s.port) (f1 := fun s => .int .i64 s.p0) (f2 := fun s => .int .i64 s.p1) (f3 := fun s => .int .i64 s.p2) (f4 := fun s => .int .i64 s.p3) hw hlt2
    have hx : a[k]? = some a[k] := List.getElem?_eq_getElem hlt
    have hy : b[k]? = some b[k] := List.getElem?_eq_getElem hlt2
    generalize a[k] = x at *
    generalize b[k] = y at *
    by_cases hxy : x = y
    · subst hxy
      obtain ⟨xp, xa, xb, xc, xd⟩ := x
      dsimp only at *
      (repeat' (first|(with_reducible first|(refine hK _ _ ?_;clear hK K)|(refine hA ?_;clear hA hB A B)|(refine hB ?_;clear hA hB A B)|(refine hK _ ?_;clear hK K))|((with_reducible refine gO ?_);(first|((with_reducible refine z25 ?_);intro K hK;(conv=>whnf))|(with_reducible refine z0 ?_)))|((first|((with_reducible refine gV ?_);(((with_reducible refine NV.i64 ?s ?_);case s=>omega)))|((with_reducible refine gI ?_);(first|(((with_reducible refine NIf.no ?s ?_);case s=>(simp ;done)))|((with_reducible refine NIf.decY ?s ?_);case s=>omega)))|((with_reducible refine gN ?_);(with_reducible first|refine NN.cast ?_|refine NN.keep ?_))|((with_reducible refine gH ?_);((with_reducible refine NH.mk ?s ?_);case s=>(and_intros<;>omega)))|(with_reducible refine NLd.of (by with_reducible assumption) ?_))<;>(conv=>whnf))|((with_reducible refine gNRH ?_);((with_reducible refine st_ordRout ?_)))|((with_reducible refine gNOH ?_);(first|(refine st_ordH1 rfl (by kernel_rfl) rfl ?_; intro K hK; (conv=>whnf))|(refine st_ordH0 rfl (by kernel_rfl) ?_)))|((with_reducible refine gX ?_);(first|(refine st_orderR rfl (by kernel_rfl) _ rfl ?_)|(with_reducible first|refine z3 ?_|refine z4 ?_|refine z5 ?_|refine z6 ?_)|((with_reducible refine z29 ?_);intro A B hA hB;(conv=>whnf))))|(with_reducible first|refine z1 ?_|refine z2 ?_|refine z9 ?_)|((refine NFlat_iff.2 ⟨⟨?s1,?s2⟩,?_⟩;(case s1=>decide +kernel);(case s2=>decide +kernel))<;>(conv=>whnf))))
      refine st_round (k + 1) ⟨hlt, fun j hj => ?_⟩ (by omega) ?_ (MemFits.eq rfl)
      · by_cases e : j = k
        · subst e
          rw [hx, hy]
        · exact hgone j (by omega)
      · repeat (first|exact FitsSl.nil|refine FitsSl.any ?_|refine FitsSl.cons (Fit1.int (by first | rfl | omega)) ?_|refine FitsSl.cons (Fit1.bool rfl) ?_|refine FitsSl.cons (Fit1.same (by intro h; cases h) (by with_reducible rfl)) ?_)
    · obtain ⟨xp, xa, xb, xc, xd⟩ := x
      obtain ⟨yp, ya, yb, yc, yd⟩ := y
      have hnb : (decide (xp = yp) && (decide (xa = ya) && (decide (xb = yb) && (decide (xc = yc) && (decide (xd = yd) && true))))) = false := by
        refine Bool.eq_false_iff.2 fun h => hxy ?_
        simp only [Bool.and_eq_true, decide_eq_true_eq, and_true] at h
        obtain ⟨rfl, rfl, rfl, rfl, rfl⟩ := h
        rfl
      dsimp only at *
      (repeat' (first|(with_reducible first|(refine hK _ _ ?_;clear hK K)|(refine hA ?_;clear hA hB A B)|(refine hK _ ?_;clear hK K))|((with_reducible refine gO ?_);(first|((with_reducible refine z25 ?_);intro K hK;(conv=>whnf))|(with_reducible refine z0 ?_)))|((first|((with_reducible refine gI ?_);(first|(((with_reducible refine NIf.yes ?s ?_);case s=>((rw [hnb]; rfl))))|((with_reducible refine NIf.decY ?s ?_);case s=>omega)))|((with_reducible refine gN ?_);(with_reducible first|refine NN.cast ?_|refine NN.keep ?_))|((with_reducible refine gH ?_);((with_reducible refine NH.mk ?s ?_);case s=>(and_intros<;>omega)))|(with_reducible refine NLd.of (by with_reducible assumption) ?_))<;>(conv=>whnf))|((with_reducible refine gNRH ?_);((with_reducible refine st_ordRout ?_)))|((with_reducible refine gNOH ?_);(first|(refine st_ordH1 rfl (by kernel_rfl) rfl ?_; intro K hK; (conv=>whnf))|(refine st_ordH0 rfl (by kernel_rfl) ?_)))|((with_reducible refine gX ?_);(first|(refine st_orderR rfl (by kernel_rfl) _ rfl ?_)|(with_reducible first|refine z3 ?_|refine z4 ?_|refine z5 ?_|refine z6 ?_|refine z8 ?_)|((with_reducible refine z29 ?_);intro A B hA hB;(conv=>whnf))))|(with_reducible first|refine z1 ?_|refine z2 ?_|refine z12 ?_|refine z13 ?_|refine z20 ?_)|((with_reducible refine gR ?_);((refine z31 rfl ?_);intro K hK;(conv=>whnf)))|((refine NFlat_iff.2 ⟨⟨?s1,?s2⟩,?_⟩;(case s1=>decide +kernel);(case s2=>decide +kernel))<;>(conv=>whnf))))
      exact ⟨po_boolF (fun e => hxy (by subst e; rw [hx] at hy; injection hy)), rfl⟩
  · (repeat' (first|(with_reducible first|(refine hK _ _ ?_;clear hK K)|(refine hB ?_;clear hA hB A B)|(refine hK _ ?_;clear hK K))|((with_reducible refine gO ?_);(first|((with_reducible refine z25 ?_);intro K hK;(conv=>whnf))|(with_reducible refine z0 ?_)))|((((with_reducible refine gI ?_);(((with_reducible refine NIf.decN ?s ?_);case s=>omega))))<;>(conv=>whnf))|((with_reducible refine gX ?_);(first|(with_reducible first|refine z3 ?_|refine z4 ?_|refine z7 ?_|refine z8 ?_)|((with_reducible refine z29 ?_);intro A B hA hB;(conv=>whnf))))|(with_reducible first|refine z1 ?_|refine z2 ?_|refine z10 ?_|refine z11 ?_|refine z19 ?_)|((with_reducible refine gR ?_);((refine z31 rfl ?_);intro K hK;(conv=>whnf)))))
    exact ⟨po_boolT (po_sent_pure hl fun j hj => hgone j (by omega)), rfl⟩
end Go.Proofs.YtaolcaggdddkpaaGreat
namespace Go.Proofs.YtaolcaggdddkpaaGreat
open Go.Sx
set_option maxRecDepth 20000
set_option linter.unusedSimpArgs false
set_option linter.unusedVariables false
set_option maxHeartbeats 4000000
set_option linter.unusedVariables false
/-- Packets that were made in a row of one's own lie among what is read alone. -/
theorem sents_know {f : FuncId} {args : List AV} {F : Heap} {t : TypeId} {m : List Blk} {l : List Po.S} (h : NCall Tryz.prog f args m fun r m' => ∃ v, r.den = slOf v ∧ MemFits m' [hpB F, ⟨addrOf v, Po.savs l, .row v t 5 l.length⟩]) :
    NCall Tryz.prog f args m fun r m' => ∃ F' v, F.le F' ∧ Po.SRow F' v l ∧ r = .hs v l.length ∧ m' = [hpB F'] := by
  refine Go.Sx.NCall.know h fun r m' ⟨v, hr, hm⟩ ⟨w, hw⟩ => ?_
  have hok := ((hm w hw).1.row (List.mem_cons_of_mem _ (List.mem_cons_self ..))).1
  have hrow := rowF_new (F := F) (sz := 5) (enc := Po.S.vs) hok (Po.savs_den _) (fun x _ => rfl)
  exact ⟨.hs v l.length, _, hr.symm, hm.trans (MemFits.freeze (m := [])), _, v, addF.old, hrow, rfl, rfl⟩
theorem sorted27_k (F : Heap) (b c : Nat) (t : TypeId) (N R : List Po.S) (hn : N.length ≤ 1000000) (hnd : N.Nodup) (hR : Po.Rising R) (hmem : ∀ t, t ∈ N ↔ t ∈ R) :
    NCall Tryz.prog 44 [.fn 79 [] [.ptr 2 ⟨c, 0, none⟩ 0], .fn 46 [] []] [hpB F, mapB b (Po.sM N), ⟨⟨c, 0, none⟩, [.raw (.map (some b))], .var t⟩] fun r m => ∃ (G : Heap) (u : Value), F.le G ∧ r = .sl 3 u R.length ∧ m = [hpB G, hpB noHeap, hpB noHeap, ⟨addrOf u, Po.savs R, .row u 56 5 R.length⟩] := by
  have hc : (addF (addO F b (mapObj (Po.sM N))) ⟨c, 0, none⟩ (denL [AV.raw (.map (some b))])).c ⟨c, 0, none⟩ (.map (some b)) := .inr ⟨0, by simp [Addr.add], by simp [denL, AV.den]⟩
  have hb : (addF (addO F b (mapObj (Po.sM N))) ⟨c, 0, none⟩ (denL [AV.raw (.map (some b))])).o b (mapObj (Po.sM N)) := .inr ⟨rfl, rfl⟩
  have h := sortedfunc27_c _ b N R hn hnd hR hmem ⟨c, 0, none⟩ hc hb
  have h := NCall.pre (args := [.fn 79 [] [.ptr 2 ⟨c, 0, none⟩ 0], .fn 46 [] []]) (m := [hpB F, mapB b (Po.sM N), ⟨⟨c, 0, none⟩, [.raw (.map (some b))], .var t⟩]) h rfl (MemFits.freezeObj.trans MemFits.freezeVar)
  have hle : F.le (addF (addO F b (mapObj (Po.sM N))) ⟨c, 0, none⟩ (denL [AV.raw (.map (some b))])) := addO.old.trans addF.old
  generalize addF (addO F b (mapObj (Po.sM N))) ⟨c, 0, none⟩ (denL [AV.raw (.map (some b))]) = G at *
  refine NCall.fits h fun r m ⟨u, h1, h2⟩ => ⟨.sl 3 u R.length, [hpB G, hpB noHeap, hpB noHeap, ⟨addrOf u, Po.savs R, .row u 56 5 R.length⟩], ?_, ?_, G, u, hle, rfl, rfl⟩
  · rw [h1]; rfl
  · rw [h2]
    exact ((MemFits.noHeap _).trans (MemFits.noHeap _)).trans (MemFits.pick [2, 0, 1, 3] (by decide) rfl)
theorem Run27_c (F : Heap) (x : Po.T) (pu u : Value) (sw : Int) (s : Po.S) (hs : Po.tot x ≤ 4611686018427387904) (hf : Po.fits x = true) (hl : (Po.runs sw x s).length ≤ 1000000) (hx : Po.At F x pu u) :
    NCall Tryz.prog 20 [.agg (Po.cs x pu u), .int .i64 sw, .int .i64 s.port, .agg [.int .i64 s.p0, .int .i64 s.p1, .int .i64 s.p2, .int .i64 s.p3]] [hpB F] fun r m => ∃ F' v, F.le F' ∧ Po.SRow F' v (Po.runs sw x s) ∧ r = .hs v (Po.runs sw x s).length ∧ m = [hpB F'] := by
  refine sents_know (t := 56) ?_
  have hok := hx.l.ok
  have hpok := hx.p.ok
  have cr := fun b => run27_c _ F x pu u sw (Nat.le_refl _) hs hf hx s b [] List.nodup_nil
  simp only [Po.doneR] at cr
  have hR := Po.runs_rising sw s _ x (Nat.le_refl _)
  have ck := fun b => keys27_c F b
  generalize Po.runs sw x s = R at *
  have hlen : ∀ N : List Po.S, N.Nodup → (∀ t, t ∈ N ↔ t ∈ ([] : List Po.S) ∨ t ∈ R) → N.length ≤ 1000000 ∧ ∀ t, t ∈ N ↔ t ∈ R := fun N hn hm => by
    have hm : ∀ t, t ∈ N ↔ t ∈ R := fun t => (hm t).trans (by simp)
    refine ⟨Nat.le_trans ?_ hl, hm⟩
    have hp : N.Perm R := by
      rw [List.perm_iff_count]
      intro t
      have hRn : R.Nodup := List.Pairwise.imp (fun {a b} (h : Po.ahead a b) (e : a = b) => Po.ahead_irrefl b (by rw [e] at h; exact h)) hR
      rw [hn.count, hRn.count]
      simp only [hm]
    rw [hp.length_eq]
    exact Nat.le_refl _
  have hsf := fun b c N (hn : N.length ≤ 1000000) hnd hm => sorted27_k F b c 86 N R hn hnd hR hm
  clear hl hR hx hf hs
  obtain ⟨k, ⟨pk, pf, pv, pl⟩, f0, v0, l⟩ := x
  obtain ⟨a0, q0, q1, q2, q3⟩ := s
  simp only [Po.cs, Po.T.k, Po.T.p, Po.T.f, Po.T.v, Po.T.l, Pd.T.k, Pd.T.f, Pd.T.v, Pd.T.l, Po.S.av] at *
  refine ncall_of Tryz.func20 rfl (by decide) ?_
  (repeat' (first|(with_reducible first|(refine hK _ _ ?_;clear hK K)|(refine hK _ ?_;clear hK K))|((with_reducible refine gO ?_);(first|((with_reducible refine z25 ?_);intro K hK;(conv=>whnf))|(with_reducible refine z0 ?_)))|((first|((with_reducible refine gH ?_);((with_reducible refine NH.mk ?s ?_);case s=>(and_intros<;>with_reducible rfl)))|((with_reducible refine gC ?_);(first|((with_reducible refine NCall.isF 43 ?_);refine NCall.subw [0, 3] _ _ (cr _) rfl (by decide) rfl ?_; rintro _ _ ⟨N, hnd, hmem, rfl, rfl⟩; refine ⟨Nat.le_of_ble_eq_true rfl, _, rfl, ?_⟩)|((with_reducible refine NCall.isF 45 ?_);refine NCall.subw [0] _ _ (ck _) rfl (by decide) rfl ?_; rintro _ _ ⟨c, rfl, rfl⟩; refine ⟨Nat.le_of_ble_eq_true rfl, .fn 79 [] [.ptr 4 ⟨c, 0, none⟩ 0], rfl, ?_⟩)|((with_reducible refine NCall.isF 44 ?_);refine NCall.subw [0, 3, 4] _ _ (hsf _ _ N (hlen N hnd hmem).1 hnd (hlen N hnd hmem).2) rfl (by decide) rfl ?_; rintro _ _ ⟨G, u9, hle, rfl, rfl⟩; refine ⟨Nat.le_of_ble_eq_true rfl, .sl 5 u9 R.length, rfl, ?_⟩))))<;>(conv=>whnf))|((with_reducible refine gMap ?_); refine NMap.make fun b1 => ?_; conv=>whnf)|((with_reducible refine gX ?_);((with_reducible first|refine z3 ?_|refine z4 ?_|refine z8 ?_)))|(with_reducible first|refine z1 ?_|refine z2 ?_)|((with_reducible refine gR ?_);((refine z31 rfl ?_);intro K hK;(conv=>whnf)))|((with_reducible refine gF ?_);((refine z33 rfl ?_);intro K hK;(conv=>whnf)))|((intro _;skip)<;>(conv=>whnf))))
  all_goals exact ⟨u9, rfl, (MemFits.pick [0, 5] (by decide) rfl).trans (MemFits.less hle _)⟩
end Go.Proofs.YtaolcaggdddkpaaGreat
