/-
  Statements that draw their order: what is read alone is read first.
-/
import Derived.Test.YtngodakgbldlpaaGreatDoorTSxC
import Derived.OrdersHeld
namespace Go.Sx
set_option linter.unusedVariables false
section
variable {P : Program}
/-- A place in a block that stays as it is. -/
def inKept (js : List Nat) (H : List Blk) (sl : List AV) (t : Nat) : Bool :=
  match sl[t]? with
  | some (.hp _ _) => !js.contains 0
  | some (.hs _ _) => !js.contains 0
  | some (.ptr j _ _) => !js.contains j && decide (j < H.length)
  | some (.sl j _ _) => !js.contains j && decide (j < H.length)
  | some (.view j _ _ _ _) => !js.contains j && decide (j < H.length)
  | some (.raw _) => true
  | _ => false
/-- What looks at nothing but what stays as it is. -/
def keptLoad (js : List Nat) (H : List Blk) (sl : List AV) : Op → Bool
  | .load _ (.tmp t) => inKept js H sl t
  | .indexAddr _ (.tmp t) _ => inKept js H sl t
  | .slice _ (.tmp t) _ _ _ => inKept js H sl t
  | _ => false
/-- The length of a slice that does not stay. -/
def lenOut (js : List Nat) (H : List Blk) (sl : List AV) : Op → Bool
  | .call c => match c.callee, c.args.toList with
    | .builtin .len, [.tmp t] => match sl[t]? with
      | some (.sl j _ _) => js.contains j || decide (H.length ≤ j)
      | some (.view j _ _ _ _) => js.contains j || decide (H.length ≤ j)
      | _ => false
    | _, _ => false
  | _ => false
def easyK (P : Program) (js : List Nat) (H : List Blk) (sl : List AV) (op : Op) : Bool := (pureOp P op && !lenOut js H sl op) || keptLoad js H sl op
/-- The blocks that stay. -/
def Kept (js : List Nat) (H m : List Blk) : Prop := (hideF js 0 m).take H.length = H
theorem Kept.mem {js : List Nat} {H m : List Blk} (h : Kept js H m) {w : World} (hm : MemOk m w) : MemOk H w := by
  have h1 := hideF_ok (js := js) 0 hm
  exact ((MemFits.pre H.length h) w h1).1
/-- The next operation that may go first whatever the others do. -/
def nextK (P : Program) (js : List Nat) (H : List Blk) (sl : List AV) (done : List Nat) : Nat → List Oper → Option (Nat × Oper)
  | _, [] => none
  | i, o :: os => match done.contains i, readyO o done, easyK P js H sl o.op with
    | false, true, true => some (i, o)
    | _, _, _ => nextK P js H sl done (i + 1) os
theorem nextK_at {js : List Nat} {H : List Blk} {sl : List AV} {done : List Nat} : ∀ (os : List Oper) (i j : Nat) (o : Oper), nextK P js H sl done i os = some (j, o) → ∃ t, j = i + t ∧ os[t]? = some o
  | [], _, _, _, h => by simp [nextK] at h
  | x :: os, i, j, o, h => by
    unfold nextK at h
    split at h
    · simp only [Option.some.injEq, Prod.mk.injEq] at h
      obtain ⟨rfl, rfl⟩ := h
      exact ⟨0, rfl, rfl⟩
    · obtain ⟨t, h1, h2⟩ := nextK_at os (i + 1) j o h
      exact ⟨t + 1, by omega, by simpa using h2⟩
def KpS (H : List Blk) (w : World) : Prop := MemOk H w
/-- What is left of a statement that draws its order, in any order. -/
@[irreducible] def NOrdK (P : Program) (js : List Nat) (H : List Blk) (l : List Oper) (n : Nat) (done : List Nat) (sl : List AV) (m : List Blk) (k : List AV → List Blk → Prop) : Prop :=
  ∀ (w0 : World) (S : Own) (a : Act) (w : World), Sim w0 S sl m a w → wpAnyH P .any l.toArray (OrdQ w0 S k) (KpS H) n (listedOf l.length done) a w
@[irreducible] def NEachK (P : Program) (js : List Nat) (H : List Blk) (l : List Oper) (n : Nat) (done : List Nat) (sl : List AV) (m : List Blk) (k : List AV → List Blk → Prop) (rs : List (Nat × Oper)) : Prop :=
  ∀ x ∈ rs, ∀ (w0 : World) (S : Own) (a : Act) (w : World), Sim w0 S sl m a w → l.toArray[x.1]? = some x.2 → wpOp P l.toArray (OrdQ w0 S k) x.1 (fun a w => KpS H w ∧ wpAnyH P .any l.toArray (OrdQ w0 S k) (KpS H) n (listedOf l.length (x.1 :: done)) a w) a w
theorem st_orderK {Q : Post} {sl : List AV} {m : List Blk} {id : Nat} {l : List Oper} {js : List Nat} {H : List Blk} (hF : Kept js H m) (h1 : P.follows .mixedOrders = true) (n : Nat) (hn : l.length = n) (h : NOrdK P js H l n [] sl m (normS Q)) : codeK P (.region id l.toArray true) sl m Q := by
  simp only [codeK]
  subst hn
  unfold NDraw
  intro id w0 S a w hs
  unfold NOrdK at h
  refine wp_region_held (S := KpS H) h1 ?_
  have := h w0 S a { w with drawn := w.drawn + 1 } ⟨hs.slots, hs.defers, hs.mem.keep (Nat.le_refl _) (fun _ _ _ _ => rfl), ⟨hs.fr.os, hs.fr.tape, hs.fr.output, hs.fr.size, hs.fr.block⟩, hs.fresh⟩
  show wpAnyH P .any l.toArray (OrdQ w0 S (normS Q)) _ _ _ a _
  simpa [listedOf] using this
section
variable {js : List Nat} {H : List Blk} {l : List Oper} {n i : Nat} {done : List Nat} {sl : List AV} {m : List Blk} {k : List AV → List Blk → Prop}
theorem ordK_first {o : Oper} {v : AV} {sl' : List AV} (hn : nextK P js H sl done 0 l = some (i, o)) (hc : chkP l done i = true) (hF : Kept js H m)
    (h : NOrdK P js H l n (i :: done) sl' m k) {w0 : World} {S : Own} {a : Act} {w : World} (hs : Sim w0 S sl m a w) (hy : YieldsIf P l.toArray (KpS H) o v.den a) (hs' : SlotsOk sl' (a.put o.dst v.den).tmps) :
    wpAnyH P .any l.toArray (OrdQ w0 S k) (KpS H) (n + 1) (listedOf l.length done) a w := by
  obtain ⟨t, ht, ho⟩ := nextK_at l 0 i o hn
  obtain rfl : i = t := by omega
  simp only [chkP, Bool.and_eq_true] at hc
  obtain ⟨⟨h1, h2⟩, h3⟩ := hc
  have ho' : l.toArray[i]? = some o := by simpa using ho
  unfold NOrdK at h
  exact wpAnyH_take ho' h1 h2 h3 (fun c a w hq => by cases hq.1) hy (hF.mem hs.mem) (h w0 S _ w (hs.step hs' hs.mem hs.fr hs.fresh))
theorem st_ordK1 {d : Option Tmp} {op : Op} {t : TypeId} {p : String} {e : Array Edge} (hn : nextK P js H sl done 0 l = some (i, ⟨d, op, t, p, e, none⟩)) (hc : chkP l done i = true) (hF : Kept js H m)
    (h : ∀ K : List AV → Prop, (∀ sl, NOrdK P js H l n (i :: done) sl m k → K sl) → opV P sl H op fun v => dstK sl d v K) : NOrdK P js H l (n + 1) done sl m k := by
  unfold NOrdK
  intro w0 S a w hs
  obtain ⟨v, h1, h2⟩ := opV_spec hs.slots (h _ fun _ h => h)
  obtain ⟨sl', h3, h4⟩ := dstK_spec h1 hs.slots
  exact ordK_first hn hc hF h3 hs (.inl ⟨rfl, fun w hw => h2 w hw _ rfl⟩) h4
theorem st_ordK1g {d : Option Tmp} {op : Op} {t : TypeId} {p : String} {e : Array Edge} {g : Nat × Bool} (hn : nextK P js H sl done 0 l = some (i, ⟨d, op, t, p, e, some g⟩)) (hc : chkP l done i = true) (hF : Kept js H m)
    (h : ∀ K : List AV → Prop, (∀ sl, NOrdK P js H l n (i :: done) sl m k → K sl) → guardK l.toArray sl g.1 g.2 (opV P sl H op fun v => dstK sl d v K) (dstK sl d (.raw undef) K)) : NOrdK P js H l (n + 1) done sl m k := by
  unfold NOrdK
  intro w0 S a w hs
  rcases guardK_spec (h _ fun _ h => h) hs.slots (o := ⟨d, op, t, p, e, some g⟩) rfl with ⟨hw, h⟩ | ⟨hw, h⟩
  · obtain ⟨v, h1, h2⟩ := opV_spec hs.slots h
    obtain ⟨sl', h3, h4⟩ := dstK_spec h1 hs.slots
    exact ordK_first hn hc hF h3 hs (.inl ⟨hw, fun w hw => h2 w hw _ rfl⟩) h4
  · obtain ⟨sl', h3, h4⟩ := dstK_spec h hs.slots
    exact ordK_first (v := .raw undef) hn hc hF h3 hs (.inr ⟨hw, rfl⟩) h4
theorem st_ordKA {rs : List (Nat × Oper)} (_hn : nextK P js H sl done 0 l = none) (hr : readys done 0 l = rs) (hc : chkR l done rs = true) (hne : rs ≠ []) (h : NEachK P js H l n done sl m k rs) : NOrdK P js H l (n + 1) done sl m k := by
  unfold NOrdK
  intro w0 S a w hs
  have hc : Region.ready .any l.toArray (listedOf l.length done) = rs.map (·.1) := by simpa [chkR] using hc
  refine wpAnyH_all hc (fun e => hne (by simpa using e)) fun i hi => ?_
  obtain ⟨x, hx, rfl⟩ := List.mem_map.1 hi
  obtain ⟨t, h1, h2⟩ := readys_at l 0 x (hr ▸ hx)
  unfold NEachK at h
  exact h x hx w0 S a w hs (by rw [h1]; simpa using h2)
theorem st_ordK0 (_hr : readys done 0 l = []) (hc : chkR l done [] = true) (h : k sl m) : NOrdK P js H l n done sl m k := by
  unfold NOrdK
  intro w0 S a w hs
  have hc : Region.ready .any l.toArray (listedOf l.length done) = [] := by simpa [chkR] using hc
  exact wpAnyH_done hc ⟨rfl, sl, m, h, hs⟩ n
theorem st_eachK0 : NEachK P js H l n done sl m k [] := by unfold NEachK; intro x hx; cases hx
theorem st_eachK {rs : List (Nat × Oper)} {d : Option Tmp} {op : Op} {t : TypeId} {p : String} {e : Array Edge}
    (h : ∀ K : List AV → List Blk → Prop, (∀ sl m, NOrdK P js H l n (i :: done) sl m k → K sl m) → opM P sl m op fun v m' => NH (Kept js H m') (dstK sl d v fun sl' => K sl' m')) (hr : NEachK P js H l n done sl m k rs) : NEachK P js H l n done sl m k ((i, ⟨d, op, t, p, e, none⟩) :: rs) := by
  unfold NEachK at *
  intro x hx
  rcases List.mem_cons.1 hx with rfl | hx
  · intro w0 S a w hs ho
    unfold wpOp
    simp only [ho]
    rw [if_pos (show Region.wanted ⟨d, op, t, p, e, none⟩ (yielded l.toArray a.tmps) = true from rfl)]
    refine .inl (opM_spec hs.slots hs.mem hs.fr hs.fresh (o := ⟨d, op, t, p, e, none⟩) (h _ fun _ _ h => h) fun v m' w' hl => ?_)
    obtain ⟨h0, hk⟩ := NH_iff.1 hl.k
    obtain ⟨sl', h1, h2⟩ := dstK_spec hk hs.slots
    unfold NOrdK at h1
    exact ⟨h0.mem hl.mem, h1 w0 S _ _ (hs.step h2 hl.mem hl.fr hl.fresh)⟩
  · exact hr x hx
theorem st_eachKg {rs : List (Nat × Oper)} {d : Option Tmp} {op : Op} {t : TypeId} {p : String} {e : Array Edge} {g : Nat × Bool} (hF : Kept js H m)
    (h : ∀ K : List AV → List Blk → Prop, (∀ sl m, NOrdK P js H l n (i :: done) sl m k → K sl m) → guardK l.toArray sl g.1 g.2 (opM P sl m op fun v m' => NH (Kept js H m') (dstK sl d v fun sl' => K sl' m')) (dstK sl d (.raw undef) fun sl' => K sl' m)) (hr : NEachK P js H l n done sl m k rs) : NEachK P js H l n done sl m k ((i, ⟨d, op, t, p, e, some g⟩) :: rs) := by
  unfold NEachK at *
  intro x hx
  rcases List.mem_cons.1 hx with rfl | hx
  · intro w0 S a w hs ho
    unfold wpOp
    simp only [ho]
    rcases guardK_spec (h _ fun _ _ h => h) hs.slots (o := ⟨d, op, t, p, e, some g⟩) rfl with ⟨hw, h⟩ | ⟨hw, h⟩
    · rw [if_pos hw]
      refine .inl (opM_spec hs.slots hs.mem hs.fr hs.fresh (o := ⟨d, op, t, p, e, some g⟩) h fun v m' w' hl => ?_)
      obtain ⟨h0, hk⟩ := NH_iff.1 hl.k
      obtain ⟨sl', h1, h2⟩ := dstK_spec hk hs.slots
      unfold NOrdK at h1
      exact ⟨h0.mem hl.mem, h1 w0 S _ _ (hs.step h2 hl.mem hl.fr hl.fresh)⟩
    · rw [if_neg (by simp [hw])]
      obtain ⟨sl', h3, h4⟩ := dstK_spec h hs.slots
      unfold NOrdK at h3
      exact ⟨hF.mem hs.mem, h3 w0 S _ _ (hs.step (v := undef) h4 hs.mem hs.fr hs.fresh)⟩
  · exact hr x hx
/-! ### In the order of the text, as long as that serves -/
def downK : Nat → List Nat
  | 0 => []
  | j + 1 => j :: downK j
/-- What is left, from the j-th on. -/
@[irreducible] def NOrdS (P : Program) (js : List Nat) (H : List Blk) (l : List Oper) (n j : Nat) (rest : List Oper) (sl : List AV) (m : List Blk) (k : List AV → List Blk → Prop) : Prop :=
  l.drop j = rest → NOrdK P js H l n (downK j) sl m k
theorem st_orderS {Q : Post} {id : Nat} (js : List Nat) (hH : hideF js 0 m = H) (hF : Kept js H m) (h1 : P.follows .mixedOrders = true) (n : Nat) (hn : l.length = n) (h : NOrdS P js H l n 0 l sl m (normS Q)) : codeK P (.region id l.toArray true) sl m Q := by
  unfold NOrdS at h
  exact st_orderK hF h1 n hn (h rfl)
theorem st_ordSout {j : Nat} {rest : List Oper} (h : NOrdK P js H l n (downK j) sl m k) : NOrdS P js H l n j rest sl m k := by
  unfold NOrdS
  intro _
  exact h
end
end
theorem gNOK {P : Program} {js : List Nat} {H : List Blk} {l : List Oper} {n : Nat} {sl : List AV} {m : List Blk} {k : List AV → List Blk → Prop} {done : List Nat} (h : NOrdK P js H l n done sl m k) : NOrdK P js H l n done sl m k := h
theorem gNEK {P : Program} {js : List Nat} {H : List Blk} {l : List Oper} {n : Nat} {sl : List AV} {m : List Blk} {k : List AV → List Blk → Prop} {done : List Nat} {rs : List (Nat × Oper)} (h : NEachK P js H l n done sl m k rs) : NEachK P js H l n done sl m k rs := h
theorem gNRK {P : Program} {js : List Nat} {H : List Blk} {l : List Oper} {n : Nat} {sl : List AV} {m : List Blk} {k : List AV → List Blk → Prop} {j : Nat} {rest : List Oper} (h : NOrdS P js H l n j rest sl m k) : NOrdS P js H l n j rest sl m k := h
theorem gKept {js : List Nat} {H m : List Blk} (h : (hideF js 0 m).take H.length = H) : Kept js H m := h
/-! Several steps under one name. -/
theorem sxEK {G G' : Prop} (r : G') (h : SxRes G' → G := by
  intro r
  (first|(((with_reducible refine gH ?_);(with_reducible refine NH.mk ?s ?_);case s=>((with_reducible refine gKept ?_);exact rfl))<;>(conv=>whnf))|((first|((with_reducible refine gV ?_);(first|((with_reducible first|refine NV.quo ?s ?_|refine NV.rem ?s ?_|refine NV.i64 ?s ?_|refine NV.u32 ?s ?_|refine NV.u8 ?s ?_|refine NV.u64 ?s ?_);case s=>omega)|(with_reducible first|refine NV.divk ?_|refine NV.modk ?_|refine NV.keep ?_)))|((with_reducible refine gI ?_);(first|with_reducible refine NIf.not_ ?_|((with_reducible refine NIf.decY ?s ?_);case s=>first|with_reducible rfl|assumption|omega)|((with_reducible refine NIf.decN ?s ?_);case s=>first|with_reducible rfl|assumption|omega)|((with_reducible refine NIf.yes ?s ?_);case s=>first|rfl|assumption)|((with_reducible refine NIf.no ?s ?_);case s=>first|rfl|assumption)))|((with_reducible refine gN ?_);(with_reducible first|refine NN.lit ?_|refine NN.cast ?_|refine NN.a1 ?_|refine NN.a2 ?_|refine NN.a3 ?_|refine NN.a4 ?_|refine NN.a5 ?_|refine NN.a6 ?_|refine NN.keep ?_))|((with_reducible refine gH ?_);((with_reducible refine NH.mk ?s ?_);case s=>(and_intros<;>first|with_reducible rfl|((with_reducible refine gOnes ?_);rfl)|((with_reducible refine gLen ?_);rfl)|omega|assumption|exact Nat.le_of_ble_eq_true rfl|(simp only [List.length_append, List.length_cons, List.length_nil]; omega)|rfl)))|(with_reducible refine NS.keep ?_)|(with_reducible refine NLd.of (by with_reducible assumption) ?_))<;>(conv=>whnf))|((refine NFlat_iff.2 ⟨⟨?s1,?s2⟩,?_⟩;(case s1=>decide +kernel);(case s2=>decide +kernel))<;>(conv=>whnf)))
  exact r.go) : G := h ⟨r⟩
theorem st_orderJ {P : Program} {H : List Blk} {l : List Oper} {sl : List AV} {m : List Blk} {Q : Post} {id : Nat} {js : List Nat} (_ : SxJs js) (hH : hideF js 0 m = H) (hF : Kept js H m) (h1 : P.follows .mixedOrders = true) (n : Nat) (hn : l.length = n) (h : NOrdS P js H l n 0 l sl m (normS Q)) : codeK P (.region id l.toArray true) sl m Q := st_orderS js hH hF h1 n hn h
theorem sxZK {G G' : Prop} (js : List Nat) (r : G') (h : SxJs js → SxRes G' → G := by
  intro j r
  repeat1' (first|(with_reducible first|(refine hK _ _ ?_;try clear hK K)|(refine hA ?_;try clear hA hB A B)|(refine hB ?_;try clear hA hB A B)|(refine hK _ ?_;try clear hK K))|(intro K hK;first|(with_reducible first|refine hK _ _ ?_|refine hK _ ?_)|refine sxEK ?_)|(((with_reducible refine gH ?_);(with_reducible refine NH.mk ?s ?_);case s=>((with_reducible refine gKept ?_);exact rfl))<;>(conv=>whnf))|((first|((with_reducible refine gV ?_);(first|((with_reducible first|refine NV.quo ?s ?_|refine NV.rem ?s ?_|refine NV.i64 ?s ?_|refine NV.u32 ?s ?_|refine NV.u8 ?s ?_|refine NV.u64 ?s ?_);case s=>omega)|(with_reducible first|refine NV.divk ?_|refine NV.modk ?_|refine NV.keep ?_)))|((with_reducible refine gI ?_);(first|with_reducible refine NIf.not_ ?_|((with_reducible refine NIf.decY ?s ?_);case s=>first|with_reducible rfl|assumption|omega)|((with_reducible refine NIf.decN ?s ?_);case s=>first|with_reducible rfl|assumption|omega)|((with_reducible refine NIf.yes ?s ?_);case s=>first|rfl|assumption)|((with_reducible refine NIf.no ?s ?_);case s=>first|rfl|assumption)))|((with_reducible refine gN ?_);(with_reducible first|refine NN.lit ?_|refine NN.cast ?_|refine NN.a1 ?_|refine NN.a2 ?_|refine NN.a3 ?_|refine NN.a4 ?_|refine NN.a5 ?_|refine NN.a6 ?_|refine NN.keep ?_))|((with_reducible refine gH ?_);((with_reducible refine NH.mk ?s ?_);case s=>(and_intros<;>first|with_reducible rfl|((with_reducible refine gOnes ?_);rfl)|((with_reducible refine gLen ?_);rfl)|omega|assumption|exact Nat.le_of_ble_eq_true rfl|(simp only [List.length_append, List.length_cons, List.length_nil]; omega)|rfl)))|(with_reducible refine NS.keep ?_)|(with_reducible refine NLd.of (by with_reducible assumption) ?_))<;>(conv=>whnf))|((first|((with_reducible refine gO ?_);(with_reducible first|refine z25 ?_|refine z26 ?_))|((with_reducible refine gP ?_);(with_reducible first|refine z27 ?_|refine z28 ?_))|((with_reducible refine gR ?_);(first|refine z31 rfl ?_|refine z32 rfl ?_))|((with_reducible refine gF ?_);(refine z33 rfl ?_))|((with_reducible refine gNRK ?_);(first|((with_reducible refine st_ordS1 ?s1 ?s2 ?s3 ?_); (case s1 => kernel_rfl); (case s2 => kernel_rfl); (case s3 => exact rfl))|((with_reducible refine st_ordS1g ?s1 ?s2 ?s3 ?_); (case s1 => kernel_rfl); (case s2 => kernel_rfl); (case s3 => exact rfl))|((with_reducible refine st_ordS2 ?s2 ?_); (case s2 => kernel_rfl))|((with_reducible refine st_ordS2g ?s2 ?s3 ?_); (case s2 => kernel_rfl); (case s3 => exact rfl))))|((with_reducible refine gNOK ?_);(first|refine st_ordK1 rfl (by kernel_rfl) rfl ?_|refine st_ordK1g rfl (by kernel_rfl) rfl ?_)));intro K hK;(conv=>whnf))|((with_reducible refine gO ?_);(with_reducible first|refine z0 ?_))|((with_reducible refine gP ?_);(with_reducible first|refine z24 ?_))|((with_reducible refine gX ?_);(with_reducible first|refine z3 ?_|refine z4 ?_|refine z5 ?_|refine z6 ?_|refine z7 ?_|refine z8 ?_|refine z14 ?_|refine z15 ?_))|(with_reducible first|refine z1 ?_|refine z2 ?_|refine z9 ?_|refine z10 ?_|refine z11 ?_|refine z12 ?_|refine z13 ?_|refine z16 ?_|refine z17 ?_|refine z18 ?_|refine z19 ?_|refine z20 ?_|refine z21 ?_|refine z22 ?_|refine z23 ?_)|((with_reducible refine gB ?_);(refine z30 (by decide) ?_))|((with_reducible refine gNRK ?_);(first|((with_reducible refine st_ordS0 ?s2 ?_); (case s2 => kernel_rfl))|(with_reducible refine st_ordSout ?_)))|((with_reducible refine gNOK ?_);(first|(refine st_ordK0 rfl (by kernel_rfl) ?_)|(refine st_ordKA rfl rfl (by kernel_rfl) (by intro h; cases h) ?_)))|((with_reducible refine gX ?_);(refine st_orderJ j rfl rfl (by kernel_rfl) _ rfl ?_))|((with_reducible refine gNEK ?_);(first|(refine st_eachK ?_ st_eachK0;intro K hK;(conv=>whnf))|(refine st_eachKg rfl ?_ st_eachK0;intro K hK;(conv=>whnf))))|((first|((with_reducible refine gX ?_);(with_reducible refine z29 ?_)));intro A B hA hB;(conv=>whnf))|((refine NFlat_iff.2 ⟨⟨?s1,?s2⟩,?_⟩;(case s1=>decide +kernel);(case s2=>decide +kernel))<;>(conv=>whnf)))
  (first|exact r.go|(revert K hK;exact r.go)|(revert A B hA hB;exact r.go))) : G := h ⟨⟩ ⟨r⟩
theorem sxVK {G A' B' : Prop} (ra : A') (rb : B') (h : SxRes A' → SxRes B' → G := by
  intro ra rb
  (with_reducible refine gNEK ?_);(first|refine st_eachK ?_ ?_|refine st_eachKg rfl ?_ ?_);(intro K hK;(conv=>whnf);revert K hK;exact ra.go);exact rb.go) : G := h ⟨ra⟩ ⟨rb⟩
end Go.Sx


