/-
  Statements that draw their order: what is read alone is read first; Are two slices of packets the same?.
-/
import Derived.Test.YtaolcaggdddkpaaGreatSxC
import Derived.OrdersHeld
import Derived.Test.YtaolcaggdddkpaaGreatJ17
namespace Go.Sx
section
variable {P : Program}
def inHeap (sl : List AV) (t : Nat) : Bool :=
  match sl[t]? with
  | some (.hp _ _) => true
  | some (.hs _ _) => true
  | _ => false
/-- What looks at nothing but what is read alone. -/
def heapLoad (sl : List AV) : Op → Bool
  | .load _ (.tmp t) => inHeap sl t
  | .indexAddr _ (.tmp t) _ => inHeap sl t
  | .slice _ (.tmp t) _ _ _ => inHeap sl t
  | _ => false
/-- The next operation that may go first whatever the others do. -/
def nextH (P : Program) (sl : List AV) (done : List Nat) : Nat → List Oper → Option (Nat × Oper)
  | _, [] => none
  | i, o :: os => match done.contains i, readyO o done, pureOp P o.op, heapLoad sl o.op with
    | false, true, true, _ => some (i, o)
    | false, true, false, true => some (i, o)
    | _, _, _, _ => nextH P sl done (i + 1) os
theorem nextH_at {sl : List AV} {done : List Nat} : ∀ (os : List Oper) (i j : Nat) (o : Oper), nextH P sl done i os = some (j, o) → ∃ t, j = i + t ∧ os[t]? = some o
  | [], _, _, _, h => by simp [nextH] at h
  | x :: os, i, j, o, h => by
    unfold nextH at h
    split at h
    · simp only [Option.some.injEq, Prod.mk.injEq] at h
      obtain ⟨rfl, rfl⟩ := h
      exact ⟨0, rfl, rfl⟩
    · simp only [Option.some.injEq, Prod.mk.injEq] at h
      obtain ⟨rfl, rfl⟩ := h
      exact ⟨0, rfl, rfl⟩
    · obtain ⟨t, h1, h2⟩ := nextH_at os (i + 1) j o h
      exact ⟨t + 1, by omega, by simpa using h2⟩
def HpS (F : Heap) (w : World) : Prop := (hpB F).holds w
/-- What is left of a statement that draws its order, in any order. -/
@[irreducible] def NOrdH (P : Program) (F : Heap) (l : List Oper) (n : Nat) (done : List Nat) (sl : List AV) (m : List Blk) (k : List AV → List Blk → Prop) : Prop :=
  ∀ (w0 : World) (S : Own) (a : Act) (w : World), Sim w0 S sl m a w → wpAnyH P .any l.toArray (OrdQ w0 S k) (HpS F) n (listedOf l.length done) a w
theorem st_orderH {Q : Post} {sl : List AV} {m : List Blk} {id : Nat} {l : List Oper} {F : Heap} (_hF : m[0]? = some (hpB F)) (h1 : P.follows .mixedOrders = true) (n : Nat) (hn : l.length = n) (h : NOrdH P F l n [] sl m (normS Q)) : codeK P (.region id l.toArray true) sl m Q := by
  simp only [codeK]
  subst hn
  unfold NDraw
  intro id w0 S a w hs
  unfold NOrdH at h
  refine wp_region_held (S := HpS F) h1 ?_
  have := h w0 S a { w with drawn := w.drawn + 1 } ⟨hs.slots, hs.defers, hs.mem.keep (Nat.le_refl _) (fun _ _ _ _ => rfl), ⟨hs.fr.os, hs.fr.tape, hs.fr.output, hs.fr.size, hs.fr.block⟩, hs.fresh⟩
  show wpAnyH P .any l.toArray (OrdQ w0 S (normS Q)) _ _ _ a _
  simpa [listedOf] using this
theorem HpS.mem {F : Heap} {w : World} (h : HpS F w) : MemOk [hpB F] w := ⟨fun k hk => by rw [List.mem_singleton.1 hk]; exact h, List.pairwise_singleton _ _⟩
section
variable {F : Heap} {l : List Oper} {n i : Nat} {done : List Nat} {sl : List AV} {m : List Blk} {k : List AV → List Blk → Prop}
theorem ordH_first {o : Oper} {v : AV} {sl' : List AV} (hn : nextH P sl done 0 l = some (i, o)) (hc : chkP l done i = true) (hF : m[0]? = some (hpB F))
    (h : NOrdH P F l n (i :: done) sl' m k) {w0 : World} {S : Own} {a : Act} {w : World} (hs : Sim w0 S sl m a w) (hy : YieldsIf P l.toArray (HpS F) o v.den a) (hs' : SlotsOk sl' (a.put o.dst v.den).tmps) :
    wpAnyH P .any l.toArray (OrdQ w0 S k) (HpS F) (n + 1) (listedOf l.length done) a w := by
  obtain ⟨t, ht, ho⟩ := nextH_at l 0 i o hn
  obtain rfl : i = t := by omega
  simp only [chkP, Bool.and_eq_true] at hc
  obtain ⟨⟨h1, h2⟩, h3⟩ := hc
  have ho' : l.toArray[i]? = some o := by simpa using ho
  unfold NOrdH at h
  exact wpAnyH_take ho' h1 h2 h3 (fun c a w hq => by cases hq.1) hy (hs.mem.holds _ (List.mem_of_getElem? hF)) (h w0 S _ w (hs.step hs' hs.mem hs.fr hs.fresh))
theorem st_ordH1 {d : Option Tmp} {op : Op} {t : TypeId} {p : String} {e : Array Edge} (hn : nextH P sl done 0 l = some (i, ⟨d, op, t, p, e, none⟩)) (hc : chkP l done i = true) (hF : m[0]? = some (hpB F))
    (h : ∀ K : List AV → Prop, (∀ sl, NOrdH P F l n (i :: done) sl m k → K sl) → opV P sl [hpB F] op fun v => dstK sl d v K) : NOrdH P F l (n + 1) done sl m k := by
  unfold NOrdH
  intro w0 S a w hs
  obtain ⟨v, h1, h2⟩ := opV_spec hs.slots (h _ fun _ h => h)
  obtain ⟨sl', h3, h4⟩ := dstK_spec h1 hs.slots
  exact ordH_first hn hc hF h3 hs (.inl ⟨rfl, fun w hw => h2 w hw.mem _ rfl⟩) h4
theorem st_ordH0 (_hr : readys done 0 l = []) (hc : chkR l done [] = true) (h : k sl m) : NOrdH P F l n done sl m k := by
  unfold NOrdH
  intro w0 S a w hs
  have hc : Region.ready .any l.toArray (listedOf l.length done) = [] := by simpa [chkR] using hc
  exact wpAnyH_done hc ⟨rfl, sl, m, h, hs⟩ n
/-! ### In the order of the text, as long as that serves -/
def downTo : Nat → List Nat
  | 0 => []
  | j + 1 => j :: downTo j
/-- What is left, from the j-th on. -/
@[irreducible] def NOrdR (P : Program) (F : Heap) (l : List Oper) (n j : Nat) (rest : List Oper) (sl : List AV) (m : List Blk) (k : List AV → List Blk → Prop) : Prop :=
  l.drop j = rest → NOrdH P F l n (downTo j) sl m k
theorem st_orderR {Q : Post} {id : Nat} (hF : m[0]? = some (hpB F)) (h1 : P.follows .mixedOrders = true) (n : Nat) (hn : l.length = n) (h : NOrdR P F l n 0 l sl m (normS Q)) : codeK P (.region id l.toArray true) sl m Q := by
  unfold NOrdR at h
  exact st_orderH hF h1 n hn (h rfl)
theorem st_ordRout {j : Nat} {rest : List Oper} (h : NOrdH P F l n (downTo j) sl m k) : NOrdR P F l n j rest sl m k := by
  unfold NOrdR
  intro _
  exact h
end
end
theorem gNOH {P : Program} {F : Heap} {l : List Oper} {n : Nat} {sl : List AV} {m : List Blk} {k : List AV → List Blk → Prop} {done : List Nat} (h : NOrdH P F l n done sl m k) : NOrdH P F l n done sl m k := h
theorem gNRH {P : Program} {F : Heap} {l : List Oper} {n : Nat} {sl : List AV} {m : List Blk} {k : List AV → List Blk → Prop} {j : Nat} {rest : List Oper} (h : NOrdR P F l n j rest sl m k) : NOrdR P F l n j rest sl m k := h
end Go.Sx
namespace Go.Proofs.YtaolcaggdddkpaaGreat
open Go.Sx
set_option maxRecDepth 20000
set_option linter.unusedSimpArgs false
set_option linter.unusedVariables false
set_option maxHeartbeats 4000000
set_option linter.unusedVariables false
theorem po_boolT {p : Prop} {_ : Decidable p} (h : p) : AV.bool true = .bool (decide p) := by rw [decide_eq_true h]
theorem po_boolF {p : Prop} {_ : Decidable p} (h : ¬ p) : AV.bool false = .bool (decide p) := by rw [decide_eq_false h]
theorem po_sent_pure {a b : List Po.S} (hl : a.length = b.length) (h : ∀ j, j < a.length → a[j]? = b[j]?) : a = b := List.ext_getElem? fun j => by
  by_cases hj : j < a.length
  · exact h j hj
  · rw [List.getElem?_eq_none (by omega), List.getElem?_eq_none (by omega)]
theorem sent27_c (F : Heap) (v w : Value) (a b : List Po.S) (hv : RowF F 5 (fun x vs => vs = x.vs) v a) (hw : RowF F 5 (fun x vs => vs = x.vs) w b) (ha : a.length ≤ 9223372036854775807) (hb : b.length ≤ 9223372036854775807) :
    NCall Tryz.prog 17 [.hs v a.length, .hs w b.length] [hpB F] fun r m => r = .bool (decide (a = b)) ∧ m = [hpB F] := by
  have hok := hv.ok
  have hokw := hw.ok
  refine ncall_of Tryz.func17 rfl (by decide) ?_
  by_cases hl : a.length = b.length
  rotate_left
  · (repeat' (first|(with_reducible first|(refine hK _ _ ?_;clear hK K)|(refine hA ?_;clear hA hB A B)|(refine hK _ ?_;clear hK K))|((with_reducible refine gO ?_);(first|((with_reducible refine z25 ?_);intro K hK;(conv=>whnf))|(with_reducible refine z0 ?_)))|((first|((with_reducible refine gI ?_);(first|with_reducible refine NIf.not_ ?_|((with_reducible refine NIf.decN ?s ?_);case s=>omega)))|((with_reducible refine gH ?_);((with_reducible refine NH.mk ?s ?_);case s=>(and_intros<;>omega))))<;>(conv=>whnf))|((with_reducible refine gX ?_);(first|(with_reducible first|refine z3 ?_|refine z4 ?_|refine z8 ?_)|((with_reducible refine z29 ?_);intro A B hA hB;(conv=>whnf))))|(with_reducible first|refine z1 ?_|refine z2 ?_|refine z12 ?_)|((with_reducible refine gR ?_);((refine z31 rfl ?_);intro K hK;(conv=>whnf)))|((with_reducible refine gF ?_);((refine z33 rfl ?_);intro K hK;(conv=>whnf)))))
    exact ⟨po_boolF (fun e => hl (by rw [e])), rfl⟩
  (repeat' (first|(with_reducible first|(refine hK _ _ ?_;clear hK K)|(refine hB ?_;clear hA hB A B)|(refine hK _ ?_;clear hK K))|((with_reducible refine gO ?_);(first|((with_reducible refine z25 ?_);intro K hK;(conv=>whnf))|(with_reducible refine z0 ?_)))|((first|((with_reducible refine gI ?_);(first|with_reducible refine NIf.not_ ?_|((with_reducible refine NIf.decY ?s ?_);case s=>omega)))|((with_reducible refine gH ?_);((with_reducible refine NH.mk ?s ?_);case s=>(and_intros<;>omega))))<;>(conv=>whnf))|((with_reducible refine gX ?_);(first|(with_reducible first|refine z3 ?_|refine z4 ?_|refine z5 ?_|refine z6 ?_)|((with_reducible refine z29 ?_);intro A B hA hB;(conv=>whnf))))|(with_reducible first|refine z1 ?_|refine z2 ?_)|((with_reducible refine gF ?_);((refine z33 rfl ?_);intro K hK;(conv=>whnf)))))
  refine st_auto (α := Nat) (fun k => k ≤ a.length ∧ ∀ j, j < k → a[j]? = b[j]?) (fun k => [.keep, .keep, .keep, .keep, .drop, .set (.int .i64 k), .keep, .keep, .keep, .keep, .keep, .drop, .drop, .drop, .drop, .drop, .drop, .drop, .drop, .drop, .drop, .drop, .drop, .drop, .drop, .drop]) (fun _ => []) (fun k => a.length - k) 0 ⟨Nat.zero_le _, fun j hj => absurd hj (Nat.not_lt_zero _)⟩ ?_ (MemFits.eq rfl) ?_
  · repeat (first|exact FitsSl.nil|refine FitsSl.any ?_|refine FitsSl.cons (Fit1.int (by first | rfl | omega)) ?_|refine FitsSl.cons (Fit1.bool rfl) ?_|refine FitsSl.cons (Fit1.same (by intro h; cases h) (by with_reducible rfl)) ?_)
  (intro k ⟨hk, hgone⟩; intro K hK; (conv=>whnf); refine hK _ _ ?_; clear hK K)
  by_cases hlt : k < a.length
  · have hlt2 : k < b.length := by omega
    obtain ⟨g0, g1, g2, g3, g4⟩ := RowF.get5 (f0 := fun s : Po.S => .int .i64 s.port) (f1 := fun s => .int .i64 s.p0) (f2 := fun s => .int .i64 s.p1) (f3 := fun s => .int .i64 s.p2) (f4 := fun s => .int .i64 s.p3) hv hlt
    obtain ⟨e0, e1, e2, e3, e4⟩ := RowF.get5 (f0 := fun s : Po.S => .int .i64 s.port) (f1 := fun s => .int .i64 s.p0) (f2 := fun s => .int .i64 s.p1) (f3 := fun s => .int .i64 s.p2) (f4 := fun s => .int .i64 s.p3) hw hlt2
    have hx : a[k]? = some a[k] := List.getElem?_eq_getElem hlt
    have hy : b[k]? = some b[k] := List.getElem?_eq_getElem hlt2
    generalize a[k] = x at *
    generalize b[k] = y at *
    by_cases hxy : x = y
    · subst hxy
      obtain ⟨xp, xa, xb, xc, xd⟩ := x
      dsimp only at *
      (repeat' (first|(with_reducible first|(refine hK _ _ ?_;clear hK K)|(refine hA ?_;clear hA hB A B)|(refine hB ?_;clear hA hB A B)|(refine hK _ ?_;clear hK K))|((with_reducible refine gO ?_);(first|((with_reducible refine z25 ?_);intro K hK;(conv=>whnf))|(with_reducible refine z0 ?_)))|((first|((with_reducible refine gV ?_);(((with_reducible refine NV.i64 ?s ?_);case s=>omega)))|((with_reducible refine gI ?_);(first|(((with_reducible refine NIf.no ?s ?_);case s=>(simp ;done)))|((with_reducible refine NIf.decY ?s ?_);case s=>omega)))|((with_reducible refine gN ?_);(with_reducible first|refine NN.cast ?_|refine NN.keep ?_))|((with_reducible refine gH ?_);((with_reducible refine NH.mk ?s ?_);case s=>(and_intros<;>omega)))|(with_reducible refine NLd.of (by with_reducible assumption) ?_))<;>(conv=>whnf))|((with_reducible refine gNRH ?_);((with_reducible refine st_ordRout ?_)))|((with_reducible refine gNOH ?_);(first|(refine st_ordH1 rfl (by kernel_rfl) rfl ?_; intro K hK; (conv=>whnf))|(refine st_ordH0 rfl (by kernel_rfl) ?_)))|((with_reducible refine gX ?_);(first|(refine st_orderR rfl (by kernel_rfl) _ rfl ?_)|(with_reducible first|refine z3 ?_|refine z4 ?_|refine z5 ?_|refine z6 ?_)|((with_reducible refine z29 ?_);intro A B hA hB;(conv=>whnf))))|(with_reducible first|refine z1 ?_|refine z2 ?_|refine z9 ?_)|((refine NFlat_iff.2 ⟨⟨?s1,?s2⟩,?_⟩;(case s1=>decide +kernel);(case s2=>decide +kernel))<;>(conv=>whnf))))
      refine st_round (k + 1) ⟨hlt, fun j hj => ?_⟩ (by omega) ?_ (MemFits.eq rfl)
      · by_cases e : j = k
        · subst e
          rw [hx, hy]
        · exact hgone j (by omega)
      · repeat (first|exact FitsSl.nil|refine FitsSl.any ?_|refine FitsSl.cons (Fit1.int (by first | rfl | omega)) ?_|refine FitsSl.cons (Fit1.bool rfl) ?_|refine FitsSl.cons (Fit1.same (by intro h; cases h) (by with_reducible rfl)) ?_)
    · obtain ⟨xp, xa, xb, xc, xd⟩ := x
      obtain ⟨yp, ya, yb, yc, yd⟩ := y
      have hnb : (decide (xp = yp) && (decide (xa = ya) && (decide (xb = yb) && (decide (xc = yc) && (decide (xd = yd) && true))))) = false := by
        refine Bool.eq_false_iff.2 fun h => hxy ?_
        simp only [Bool.and_eq_true, decide_eq_true_eq, and_true] at h
        obtain ⟨rfl, rfl, rfl, rfl, rfl⟩ := h
        rfl
      dsimp only at *
      (repeat' (first|(with_reducible first|(refine hK _ _ ?_;clear hK K)|(refine hA ?_;clear hA hB A B)|(refine hK _ ?_;clear hK K))|((with_reducible refine gO ?_);(first|((with_reducible refine z25 ?_);intro K hK;(conv=>whnf))|(with_reducible refine z0 ?_)))|((first|((with_reducible refine gI ?_);(first|(((with_reducible refine NIf.yes ?s ?_);case s=>((rw [hnb]; rfl))))|((with_reducible refine NIf.decY ?s ?_);case s=>omega)))|((with_reducible refine gN ?_);(with_reducible first|refine NN.cast ?_|refine NN.keep ?_))|((with_reducible refine gH ?_);((with_reducible refine NH.mk ?s ?_);case s=>(and_intros<;>omega)))|(with_reducible refine NLd.of (by with_reducible assumption) ?_))<;>(conv=>whnf))|((with_reducible refine gNRH ?_);((with_reducible refine st_ordRout ?_)))|((with_reducible refine gNOH ?_);(first|(refine st_ordH1 rfl (by kernel_rfl) rfl ?_; intro K hK; (conv=>whnf))|(refine st_ordH0 rfl (by kernel_rfl) ?_)))|((with_reducible refine gX ?_);(first|(refine st_orderR rfl (by kernel_rfl) _ rfl ?_)|(with_reducible first|refine z3 ?_|refine z4 ?_|refine z5 ?_|refine z6 ?_|refine z8 ?_)|((with_reducible refine z29 ?_);intro A B hA hB;(conv=>whnf))))|(with_reducible first|refine z1 ?_|refine z2 ?_|refine z12 ?_|refine z13 ?_|refine z20 ?_)|((with_reducible refine gR ?_);((refine z31 rfl ?_);intro K hK;(conv=>whnf)))|((refine NFlat_iff.2 ⟨⟨?s1,?s2⟩,?_⟩;(case s1=>decide +kernel);(case s2=>decide +kernel))<;>(conv=>whnf))))
      exact ⟨po_boolF (fun e => hxy (by subst e; rw [hx] at hy; injection hy)), rfl⟩
  · (repeat' (first|(with_reducible first|(refine hK _ _ ?_;clear hK K)|(refine hB ?_;clear hA hB A B)|(refine hK _ ?_;clear hK K))|((with_reducible refine gO ?_);(first|((with_reducible refine z25 ?_);intro K hK;(conv=>whnf))|(with_reducible refine z0 ?_)))|((first|((with_reducible refine gI ?_);(((with_reducible refine NIf.decN ?s ?_);case s=>omega)))|((with_reducible refine gH ?_);((with_reducible refine NH.mk ?s ?_);case s=>(and_intros<;>omega))))<;>(conv=>whnf))|((with_reducible refine gX ?_);(first|(with_reducible first|refine z3 ?_|refine z4 ?_|refine z7 ?_|refine z8 ?_)|((with_reducible refine z29 ?_);intro A B hA hB;(conv=>whnf))))|(with_reducible first|refine z1 ?_|refine z2 ?_|refine z10 ?_|refine z11 ?_|refine z19 ?_)|((with_reducible refine gR ?_);((refine z31 rfl ?_);intro K hK;(conv=>whnf)))))
    exact ⟨po_boolT (po_sent_pure hl fun j hj => hgone j (by omega)), rfl⟩
end Go.Proofs.YtaolcaggdddkpaaGreat
