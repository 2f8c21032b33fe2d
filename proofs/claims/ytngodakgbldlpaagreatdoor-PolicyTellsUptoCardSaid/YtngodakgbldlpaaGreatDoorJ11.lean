import Derived.Test.YtngodakgbldlpaaGreatDoorJ10
import Derived.Test.YtngodakgbldlpaaGreatDoorJ1
namespace Go.Proofs.YtngodakgbldlpaaGreatDoor
open Go.Sx
set_option maxRecDepth 20000
set_option linter.unusedSimpArgs false
set_option linter.unusedVariables false
set_option maxHeartbeats 4000000
set_option linter.unusedVariables false
theorem po_boolT {p : Prop} {_ : Decidable p} (h : p) : AV.bool true = .bool (decide p) := by rw [decide_eq_true h]
theorem po_boolF {p : Prop} {_ : Decidable p} (h : ¬ p) : AV.bool false = .bool (decide p) := by rw [decide_eq_false h]
theorem po_sent_pure {a b : List Po.S} (hl : a.length = b.length) (h : ∀ j, j < a.length → a[j]? = b[j]?) : a = b := List.ext_getElem? fun j => by
  by_cases hj : j < a.length
  · exact h j hj
  · rw [List.getElem?_eq_none (by omega), List.getElem?_eq_none (by omega)]
theorem sent27_c (F : Heap) (v w : Value) (a b : List Po.S) (hv : RowF F 5 (fun x vs => vs = x.vs) v a) (hw : RowF F 5 (fun x vs => vs = x.vs) w b) (ha : a.length ≤ 9223372036854775807) (hb : b.length ≤ 9223372036854775807) :
    NCall Tryz.prog 12 [.hs v a.length, .hs w b.length] [hpB F] fun r m => r = .bool (decide (a = b)) ∧ m = [hpB F] := by
  have hok := hv.ok
  have hokw := hw.ok
  refine ncall_of Tryz.func12 rfl (by decide) ?_
  by_cases hl : a.length = b.length
  rotate_left
  · (repeat' (first|(with_reducible first|(refine hK _ _ ?_;clear hK K)|(refine hA ?_;clear hA hB A B)|(refine hK _ ?_;clear hK K))|((with_reducible refine gO ?_);(first|((with_reducible refine z25 ?_);intro K hK;(conv=>whnf))|(with_reducible refine z0 ?_)))|((first|((with_reducible refine gI ?_);(first|with_reducible refine NIf.not_ ?_|((with_reducible refine NIf.decN ?s ?_);case s=>omega)))|((with_reducible refine gH ?_;refine NH.mk ?s ?_);case s=>(and_intros<;>omega)))<;>(conv=>whnf))|((with_reducible refine gX ?_);(first|(with_reducible first|refine z3 ?_|refine z4 ?_|refine z8 ?_)|((with_reducible refine z29 ?_);intro A B hA hB;(conv=>whnf))))|(with_reducible first|refine z1 ?_|refine z2 ?_|refine z12 ?_)|((with_reducible refine gR ?_);((refine z31 rfl ?_);intro K hK;(conv=>whnf)))|((with_reducible refine gF ?_);((refine z33 rfl ?_);intro K hK;(conv=>whnf)))))
    exact ⟨po_boolF (fun e => hl (by rw [e])), rfl⟩
  (repeat' (first|(with_reducible first|(refine hK _ _ ?_;clear hK K)|(refine hB ?_;clear hA hB A B)|(refine hK _ ?_;clear hK K))|((with_reducible refine gO ?_);(first|((with_reducible refine z25 ?_);intro K hK;(conv=>whnf))|(with_reducible refine z0 ?_)))|((first|((with_reducible refine gI ?_);(first|with_reducible refine NIf.not_ ?_|((with_reducible refine NIf.decY ?s ?_);case s=>omega)))|((with_reducible refine gH ?_;refine NH.mk ?s ?_);case s=>(and_intros<;>omega)))<;>(conv=>whnf))|((with_reducible refine gX ?_);(first|(with_reducible first|refine z3 ?_|refine z4 ?_|refine z5 ?_|refine z6 ?_)|((with_reducible refine z29 ?_);intro A B hA hB;(conv=>whnf))))|(with_reducible first|refine z1 ?_|refine z2 ?_)|((with_reducible refine gF ?_);((refine z33 rfl ?_);intro K hK;(conv=>whnf)))))
  refine st_auto (α := Nat) (fun k => k ≤ a.length ∧ ∀ j, j < k → a[j]? = b[j]?) (fun k => [.keep, .keep, .keep, .keep, .drop, .set (.int .i64 k), .keep, .keep, .keep, .keep, .keep, .drop, .drop, .drop, .drop, .drop, .drop, .drop, .drop, .drop, .drop, .drop, .drop, .drop, .drop, .drop]) (fun _ => []) (fun k => a.length - k) 0 ⟨Nat.zero_le _, fun j hj => absurd hj (Nat.not_lt_zero _)⟩ ?_ (MemFits.eq rfl) ?_
  · repeat (first|exact FitsSl.nil|refine FitsSl.any ?_|refine FitsSl.cons (Fit1.int (by first | rfl | omega)) ?_|refine FitsSl.cons (Fit1.bool rfl) ?_|refine FitsSl.cons (Fit1.same (by intro h; cases h) (by with_reducible rfl)) ?_)
  (intro k ⟨hk, hgone⟩; intro K hK; (conv=>whnf); refine hK _ _ ?_; clear hK K)
  by_cases hlt : k < a.length
  · have hlt2 : k < b.length := by omega
    obtain ⟨g0, g1, g2, g3, g4⟩ := RowF.get5 (f0 := fun s : Po.S => .int .i64 s.port) (f1 := fun s => .int .i64 s.p0) (f2 := fun s => .int .i64 s.p1) (f3 := fun s => .int .i64 s.p2) (f4 := fun s => .int .i64 s.p3) hv hlt
    obtain ⟨e0, e1, e2, e3, e4⟩ := RowF.get5 (f0 := fun s : Po.S => .int .i64 s.port) (f1 := fun s => .int .i64 s.p0) (f2 := fun s => .int .i64 s.p1) (f3 := fun s => .int .i64 s.p2) (f4 := fun s => .int .i64 s.p3) hw hlt2
    have hx : a[k]? = some a[k] := List.getElem?_eq_getElem hlt
    have hy : b[k]? = some b[k] := List.getElem?_eq_getElem hlt2
    generalize a[k] = x at *
    generalize b[k] = y at *
    by_cases hxy : x = y
    · subst hxy
      obtain ⟨xp, xa, xb, xc, xd⟩ := x
      dsimp only at *
      (repeat' (first|(with_reducible first|(refine hK _ _ ?_;clear hK K)|(refine hA ?_;clear hA hB A B)|(refine hB ?_;clear hA hB A B)|(refine hK _ ?_;clear hK K))|((with_reducible refine gO ?_);(first|((with_reducible refine z25 ?_);intro K hK;(conv=>whnf))|(with_reducible refine z0 ?_)))|((first|((with_reducible refine gV ?_);(((with_reducible refine NV.i64 ?s ?_);case s=>omega)))|((with_reducible refine gI ?_);(first|(((with_reducible refine NIf.no ?s ?_);case s=>(simp ;done)))|((with_reducible refine NIf.decY ?s ?_);case s=>omega)))|(with_reducible refine gN ?_;first|refine NN.cast ?_|refine NN.keep ?_)|((with_reducible refine gH ?_;refine NH.mk ?s ?_);case s=>(and_intros<;>omega))|(with_reducible refine NLd.of (by with_reducible assumption) ?_))<;>(conv=>whnf))|(with_reducible refine gNRH ?_;refine st_ordRout ?_)|((with_reducible refine gNOH ?_);(first|(refine st_ordH1 rfl (by kernel_rfl) rfl ?_; intro K hK; (conv=>whnf))|(refine st_ordH0 rfl (by kernel_rfl) ?_)))|((with_reducible refine gX ?_);(first|(refine st_orderR rfl (by kernel_rfl) _ rfl ?_)|(with_reducible first|refine z3 ?_|refine z4 ?_|refine z5 ?_|refine z6 ?_)|((with_reducible refine z29 ?_);intro A B hA hB;(conv=>whnf))))|(with_reducible first|refine z1 ?_|refine z2 ?_|refine z9 ?_)|((refine NFlat_iff.2 ⟨⟨?s1,?s2⟩,?_⟩;(case s1=>decide +kernel);(case s2=>decide +kernel))<;>(conv=>whnf))))
      refine st_round (k + 1) ⟨hlt, fun j hj => ?_⟩ (by omega) ?_ (MemFits.eq rfl)
      · by_cases e : j = k
        · subst e
          rw [hx, hy]
        · exact hgone j (by omega)
      · repeat (first|exact FitsSl.nil|refine FitsSl.any ?_|refine FitsSl.cons (Fit1.int (by first | rfl | omega)) ?_|refine FitsSl.cons (Fit1.bool rfl) ?_|refine FitsSl.cons (Fit1.same (by intro h; cases h) (by with_reducible rfl)) ?_)
    · obtain ⟨xp, xa, xb, xc, xd⟩ := x
      obtain ⟨yp, ya, yb, yc, yd⟩ := y
      have hnb : (decide (xp = yp) && (decide (xa = ya) && (decide (xb = yb) && (decide (xc = yc) && (decide (xd = yd) && true))))) = false := by
        refine Bool.eq_false_iff.2 fun h => hxy ?_
        simp only [Bool.and_eq_true, decide_eq_true_eq, and_true] at h
        obtain ⟨rfl, rfl, rfl, rfl, rfl⟩ := h
        rfl
      dsimp only at *
      (repeat' (first|(with_reducible first|(refine hK _ _ ?_;clear hK K)|(refine hA ?_;clear hA hB A B)|(refine hK _ ?_;clear hK K))|((with_reducible refine gO ?_);(first|((with_reducible refine z25 ?_);intro K hK;(conv=>whnf))|(with_reducible refine z0 ?_)))|((first|((with_reducible refine gI ?_);(first|(((with_reducible refine NIf.yes ?s ?_);case s=>((rw [hnb]; rfl))))|((with_reducible refine NIf.decY ?s ?_);case s=>omega)))|(with_reducible refine gN ?_;first|refine NN.cast ?_|refine NN.keep ?_)|((with_reducible refine gH ?_;refine NH.mk ?s ?_);case s=>(and_intros<;>omega))|(with_reducible refine NLd.of (by with_reducible assumption) ?_))<;>(conv=>whnf))|(with_reducible refine gNRH ?_;refine st_ordRout ?_)|((with_reducible refine gNOH ?_);(first|(refine st_ordH1 rfl (by kernel_rfl) rfl ?_; intro K hK; (conv=>whnf))|(refine st_ordH0 rfl (by kernel_rfl) ?_)))|((with_reducible refine gX ?_);(first|(refine st_orderR rfl (by kernel_rfl) _ rfl ?_)|(with_reducible first|refine z3 ?_|refine z4 ?_|refine z5 ?_|refine z6 ?_|refine z8 ?_)|((with_reducible refine z29 ?_);intro A B hA hB;(conv=>whnf))))|(with_reducible first|refine z1 ?_|refine z2 ?_|refine z12 ?_|refine z13 ?_|refine z20 ?_)|((with_reducible refine gR ?_);((refine z31 rfl ?_);intro K hK;(conv=>whnf)))|((refine NFlat_iff.2 ⟨⟨?s1,?s2⟩,?_⟩;(case s1=>decide +kernel);(case s2=>decide +kernel))<;>(conv=>whnf))))
      exact ⟨po_boolF (fun e => hxy (by subst e; rw [hx] at hy; injection hy)), rfl⟩
  · (repeat' (first|(with_reducible first|(refine hK _ _ ?_;clear hK K)|(refine hB ?_;clear hA hB A B)|(refine hK _ ?_;clear hK K))|((with_reducible refine gO ?_);(first|((with_reducible refine z25 ?_);intro K hK;(conv=>whnf))|(with_reducible refine z0 ?_)))|((first|((with_reducible refine gI ?_);(((with_reducible refine NIf.decN ?s ?_);case s=>omega)))|((with_reducible refine gH ?_;refine NH.mk ?s ?_);case s=>(and_intros<;>omega)))<;>(conv=>whnf))|((with_reducible refine gX ?_);(first|(with_reducible first|refine z3 ?_|refine z4 ?_|refine z7 ?_|refine z8 ?_)|((with_reducible refine z29 ?_);intro A B hA hB;(conv=>whnf))))|(with_reducible first|refine z1 ?_|refine z2 ?_|refine z10 ?_|refine z11 ?_|refine z19 ?_)|((with_reducible refine gR ?_);((refine z31 rfl ?_);intro K hK;(conv=>whnf)))))
    exact ⟨po_boolT (po_sent_pure hl fun j hj => hgone j (by omega)), rfl⟩
end Go.Proofs.YtngodakgbldlpaaGreatDoor
namespace Go.Proofs.YtngodakgbldlpaaGreatDoor
open Go.Sx
set_option maxRecDepth 20000
set_option linter.unusedVariables false
namespace Pd
mutual
def vals (f : Int) : T → List Int
  | .mk k a v l => (if k = 3 ∧ a = f then [v] else []) ++ valsL f l
def valsL (f : Int) : List T → List Int
  | [] => []
  | p :: l => vals f p ++ valsL f l
end
theorem valsL_append (f : Int) (a b : List T) : valsL f (a ++ b) = valsL f a ++ valsL f b := by
  induction a with
  | nil => rfl
  | cons p a ih => rw [List.cons_append, valsL, valsL, ih, List.append_assoc]
theorem valsL_take (f : Int) {l : List T} {k : Nat} (h : k < l.length) : valsL f (l.take (k + 1)) = valsL f (l.take k) ++ vals f l[k] := by
  rw [List.take_add_one, List.getElem?_eq_getElem h, valsL_append]
  congr 1
  show vals f l[k] ++ [] = _
  simp
mutual
theorem vals_len (f : Int) : ∀ p : T, (vals f p).length ≤ size p
  | .mk k a v l => by
    have := valsL_len f l
    rw [vals, size, List.length_append]
    split
    · simp; omega
    · simp; omega
theorem valsL_len (f : Int) : ∀ l : List T, (valsL f l).length ≤ sizeL l
  | [] => by simp [valsL]
  | p :: l => by have := vals_len f p; have := valsL_len f l; rw [valsL, sizeL, List.length_append]; omega
end
mutual
theorem vals_top (f : Int) : ∀ p : T, fits p = true → ∀ v ∈ vals f p, 0 ≤ v ∧ v ≤ top f
  | .mk k a w l, h, v, hv => by
    rw [fits, Bool.and_eq_true] at h
    rw [vals, List.mem_append] at hv
    rcases hv with hv | hv
    · split at hv
      · rename_i hk
        obtain ⟨rfl, rfl⟩ := hk
        have h1 := h.1
        unfold shape at h1
        rw [decide_eq_true_eq] at h1
        rw [List.mem_singleton.1 hv]
        omega
      · simp at hv
    · exact valsL_top f l h.2 v hv
theorem valsL_top (f : Int) : ∀ l : List T, fitsL l = true → ∀ v ∈ valsL f l, 0 ≤ v ∧ v ≤ top f
  | [], _, v, hv => by simp [valsL] at hv
  | p :: l, h, v, hv => by
    rw [fitsL, Bool.and_eq_true] at h
    rw [valsL, List.mem_append] at hv
    rcases hv with hv | hv
    · exact vals_top f p h.1 v hv
    · exact valsL_top f l h.2 v hv
end
def once : List Int → List Int
  | [] => []
  | [x] => [x]
  | x :: y :: l => if x = y then once (y :: l) else x :: once (y :: l)
theorem once_mem : ∀ (l : List Int) (v : Int), v ∈ once l ↔ v ∈ l
  | [], v => by simp [once]
  | [x], v => by simp [once]
  | x :: y :: l, v => by
    rw [once]
    split
    · rename_i h
      subst h
      rw [once_mem (x :: l) v]
      simp
    · rw [List.mem_cons, once_mem (y :: l) v, List.mem_cons (b := x)]
theorem once_rising : ∀ l : List Int, l.Pairwise (· ≤ ·) → (once l).Pairwise (· < ·)
  | [], _ => by simp [once]
  | [x], _ => by simp [once]
  | x :: y :: l, h => by
    rw [once]
    have h2 := List.pairwise_cons.1 h
    split
    · exact once_rising (y :: l) h2.2
    · rename_i hne
      refine List.pairwise_cons.2 ⟨fun v hv => ?_, once_rising (y :: l) h2.2⟩
      have hm := (once_mem (y :: l) v).1 hv
      have h3 := List.pairwise_cons.1 h2.2
      have h4 := h2.1 y (by simp)
      rcases List.mem_cons.1 hm with rfl | hm
      · omega
      · have := h3.1 v hm; omega
theorem rising_eq : ∀ a b : List Int, a.Pairwise (· < ·) → b.Pairwise (· < ·) → (∀ v, v ∈ a ↔ v ∈ b) → a = b
  | [], [], _, _, _ => rfl
  | [], y :: b, _, _, h => by have := (h y).2 (by simp); simp at this
  | x :: a, [], _, _, h => by have := (h x).1 (by simp); simp at this
  | x :: a, y :: b, ha, hb, h => by
    have ha' := List.pairwise_cons.1 ha
    have hb' := List.pairwise_cons.1 hb
    have e : x = y := by
      have h1 := (h x).1 (by simp)
      have h2 := (h y).2 (by simp)
      rcases List.mem_cons.1 h1 with h1 | h1
      · exact h1
      · rcases List.mem_cons.1 h2 with h2 | h2
        · exact h2.symm
        · have := ha'.1 y h2; have := hb'.1 x h1; omega
    subst e
    rw [rising_eq a b ha'.2 hb'.2 fun v => ⟨fun hv => ?_, fun hv => ?_⟩]
    · have h1 := (h v).1 (List.mem_cons_of_mem _ hv)
      rcases List.mem_cons.1 h1 with h1 | h1
      · have := ha'.1 v hv; omega
      · exact h1
    · have h1 := (h v).2 (List.mem_cons_of_mem _ hv)
      rcases List.mem_cons.1 h1 with h1 | h1
      · have := hb'.1 v hv; omega
      · exact h1
def values (f : Int) (p : T) : List Int := once ((vals f p).mergeSort fun x y => decide (x ≤ y))
theorem values_mem (f : Int) (p : T) (v : Int) : v ∈ values f p ↔ v ∈ vals f p := by
  unfold values
  rw [once_mem]
  exact List.mem_mergeSort
theorem top_nonneg (f : Int) : 0 ≤ top f := by unfold top; split <;> first | omega | (split <;> first | omega | (split <;> omega))
end Pd
end Go.Proofs.YtngodakgbldlpaaGreatDoor
