import Derived.Test.YtngodakgbldlpaaGreatDoorJ9
import Derived.Sort.OwnSortedInts
import Derived.Test.YtngodakgbldlpaaGreatDoorSxC
import Derived.OrdersHeld
namespace Go.Proofs.YtngodakgbldlpaaGreatDoor
open Go.Sx
set_option maxRecDepth 20000
set_option maxHeartbeats 4000000
set_option linter.unusedVariables false
section
open Go.Sort Go.Proofs Go.RowKit
theorem holds_of_blockV {w : World} {g : Nat} {cur : Array Value} {e : TypeId} {ss : List Value} (hb : w.heap[g]? = some (.cells cur e (0, 0))) (ht : cur.toList.take ss.length = ss) : Holds id w g 0 ss.toArray := by
  intro j hj
  have hj' : j < ss.length := by simpa using hj
  refine ⟨?_, by simp [World.frozen?, hb]⟩
  have h1 : (cur.toList.take ss.length)[j]? = ss[j]? := by rw [ht]
  rw [List.getElem?_take_of_lt hj'] at h1
  simp only [World.cell?, hb, Nat.zero_add]
  simp only [Option.isSome_none, Bool.false_eq_true, if_false]
  rw [← Array.getElem?_toList, h1]
  simp [hj']
theorem heap_sortedV {w : World} {g n : Nat} {os : Array Obj} {cur : Array Value} {e : TypeId} {fr : Nat × Nat} (d : Array Value) (hb : w.heap[g]? = some (.cells cur e fr)) :
    (grow (putRow id (Sort.ahead w n) g 0 d) os).heap[g]? = some (.cells (putCells id 0 d cur) e fr) := by
  have hg : g < w.heap.size := (Array.getElem?_eq_some_iff.1 hb).1
  rw [heap_grow_old _ _ (by simpa using hg)]
  simp [putRow, mapBlock, Sort.ahead, Array.getElem?_modify, hb, onCells]
theorem grownBy_sortedV {w : World} {g n : Nat} {os : Array Obj} (d : Array Value) : w.grownBy (grow (putRow id (Sort.ahead w n) g 0 d) os) (some g) := by
  refine ⟨rfl, rfl, rfl, by simp, fun k hk hne => ?_⟩
  rw [heap_grow_old _ _ (by simpa using hk)]
  have : g ≠ k := fun e => hne (by rw [e])
  simp [putRow, mapBlock, Sort.ahead, Array.getElem?_modify, this]
theorem take_putCellsV (cur : Array Value) (ts : List Value) (h : ts.length ≤ cur.size) : (putCells id 0 ts.toArray cur).toList.take ts.length = ts := by
  apply List.ext_getElem?
  intro j
  by_cases hj : j < ts.length
  · rw [List.getElem?_take_of_lt hj, Array.getElem?_toList]
    simp [putCells, hj, show j < cur.size by omega]
  · rw [List.getElem?_take_eq_none (by omega), List.getElem?_eq_none (by omega)]
end
namespace Po
instance : Inhabited S := ⟨⟨0, 0, 0, 0, 0⟩⟩
def savs (L : List S) : List AV := L.flatMap S.av
theorem savs_den : ∀ L : List S, denL (savs L) = L.flatMap S.vs
  | [] => rfl
  | s :: L => by
    have := savs_den L
    unfold savs at *
    rw [List.flatMap_cons, List.flatMap_cons, denL_append, this]
    rfl
theorem savs_len (L : List S) : (savs L).length = L.length * 5 := by
  induction L with
  | nil => rfl
  | cons s L ih => unfold savs at *; rw [List.flatMap_cons, List.length_append, ih, List.length_cons]; simp [S.av]; omega
theorem savs_append (L M : List S) : savs (L ++ M) = savs L ++ savs M := by unfold savs; rw [List.flatMap_append]
theorem vs_len (s : S) : s.vs.length = 5 := rfl
theorem flat_at : ∀ (L : List S) (i j : Nat), i < L.length → j < 5 → (L.flatMap S.vs)[i * 5 + j]? = (L.getD i default).vs[j]?
  | [], i, j, hi, _ => by simp at hi
  | s :: L, 0, j, _, hj => by
    rw [List.flatMap_cons, List.getElem?_append_left (by rw [vs_len]; omega)]
    simp
  | s :: L, i + 1, j, hi, hj => by
    rw [List.flatMap_cons, List.getElem?_append_right (by rw [vs_len]; omega), vs_len, show (i + 1) * 5 + j - 5 = i * 5 + j by omega, flat_at L i j (by simpa using hi) hj]
    simp
theorem flat_len (L : List S) : (L.flatMap S.vs).length = L.length * 5 := by
  rw [← savs_den, denL_length, savs_len]
theorem flatK_eq (L : List S) : Go.Sort.flatK S.vs 5 L.toArray = (L.flatMap S.vs).toArray := by
  apply Array.ext
  · rw [Go.Sort.size_flatK]; simp only [List.size_toArray, flat_len]
  · intro t h1 h2
    rw [Go.Sort.size_flatK, List.size_toArray] at h1
    have e := Go.Sort.get_flatK S.vs 5 L.toArray t (by simpa using h1)
    rw [getElem!_pos _ t (by rw [Go.Sort.size_flatK, List.size_toArray]; exact h1)] at e
    rw [e]
    have hi : t / 5 < L.length := by omega
    have hj : t % 5 < 5 := by omega
    have h3 := flat_at L (t / 5) (t % 5) hi hj
    rw [show t / 5 * 5 + t % 5 = t by omega] at h3
    have h4 : (L.flatMap S.vs)[t]? = some ((L.flatMap S.vs)[t]'(by simpa using h2)) := List.getElem?_eq_getElem _
    rw [h4, List.getD_eq_getElem?_getD, List.getElem?_eq_getElem hi, Option.getD_some, List.getElem?_eq_getElem (by rw [vs_len]; exact hj)] at h3
    injection h3 with h3
    rw [List.getElem_toArray, h3]
    have h5 : L.toArray[t / 5]! = L[t / 5] := by rw [getElem!_pos _ _ (by simpa using hi)]; simp
    rw [h5, getElem!_pos _ _ (by rw [vs_len]; exact hj)]
end Po
end Go.Proofs.YtngodakgbldlpaaGreatDoor
namespace Go.Sx
section
variable {P : Program}
def inHeap (sl : List AV) (t : Nat) : Bool :=
  match sl[t]? with
  | some (.hp _ _) => true
  | some (.hs _ _) => true
  | _ => false
def heapLoad (sl : List AV) : Op → Bool
  | .load _ (.tmp t) => inHeap sl t
  | .indexAddr _ (.tmp t) _ => inHeap sl t
  | .slice _ (.tmp t) _ _ _ => inHeap sl t
  | _ => false
def nextH (P : Program) (sl : List AV) (done : List Nat) : Nat → List Oper → Option (Nat × Oper)
  | _, [] => none
  | i, o :: os => match done.contains i, readyO o done, pureOp P o.op, heapLoad sl o.op with
    | false, true, true, _ => some (i, o)
    | false, true, false, true => some (i, o)
    | _, _, _, _ => nextH P sl done (i + 1) os
theorem nextH_at {sl : List AV} {done : List Nat} : ∀ (os : List Oper) (i j : Nat) (o : Oper), nextH P sl done i os = some (j, o) → ∃ t, j = i + t ∧ os[t]? = some o
  | [], _, _, _, h => by simp [nextH] at h
  | x :: os, i, j, o, h => by
    unfold nextH at h
    split at h
    · simp only [Option.some.injEq, Prod.mk.injEq] at h
      obtain ⟨rfl, rfl⟩ := h
      exact ⟨0, rfl, rfl⟩
    · simp only [Option.some.injEq, Prod.mk.injEq] at h
      obtain ⟨rfl, rfl⟩ := h
      exact ⟨0, rfl, rfl⟩
    · obtain ⟨t, h1, h2⟩ := nextH_at os (i + 1) j o h
      exact ⟨t + 1, by omega, by simpa using h2⟩
def HpS (F : Heap) (w : World) : Prop := (hpB F).holds w
@[irreducible] def NOrdH (P : Program) (F : Heap) (l : List Oper) (n : Nat) (done : List Nat) (sl : List AV) (m : List Blk) (k : List AV → List Blk → Prop) : Prop :=
  ∀ (w0 : World) (S : Own) (a : Act) (w : World), Sim w0 S sl m a w → wpAnyH P .any l.toArray (OrdQ w0 S k) (HpS F) n (listedOf l.length done) a w
@[irreducible] def NEachH (P : Program) (F : Heap) (l : List Oper) (n : Nat) (done : List Nat) (sl : List AV) (m : List Blk) (k : List AV → List Blk → Prop) (rs : List (Nat × Oper)) : Prop :=
  ∀ x ∈ rs, ∀ (w0 : World) (S : Own) (a : Act) (w : World), Sim w0 S sl m a w → l.toArray[x.1]? = some x.2 → wpOp P l.toArray (OrdQ w0 S k) x.1 (fun a w => HpS F w ∧ wpAnyH P .any l.toArray (OrdQ w0 S k) (HpS F) n (listedOf l.length (x.1 :: done)) a w) a w
theorem st_orderH {Q : Post} {sl : List AV} {m : List Blk} {id : Nat} {l : List Oper} {F : Heap} (_hF : m[0]? = some (hpB F)) (h1 : P.follows .mixedOrders = true) (n : Nat) (hn : l.length = n) (h : NOrdH P F l n [] sl m (normS Q)) : codeK P (.region id l.toArray true) sl m Q := by
  simp only [codeK]
  subst hn
  unfold NDraw
  intro id w0 S a w hs
  unfold NOrdH at h
  refine wp_region_held (S := HpS F) h1 ?_
  have := h w0 S a { w with drawn := w.drawn + 1 } ⟨hs.slots, hs.defers, hs.mem.keep (Nat.le_refl _) (fun _ _ _ _ => rfl), ⟨hs.fr.os, hs.fr.tape, hs.fr.output, hs.fr.size, hs.fr.block⟩, hs.fresh⟩
  show wpAnyH P .any l.toArray (OrdQ w0 S (normS Q)) _ _ _ a _
  simpa [listedOf] using this
theorem HpS.mem {F : Heap} {w : World} (h : HpS F w) : MemOk [hpB F] w := ⟨fun k hk => by rw [List.mem_singleton.1 hk]; exact h, List.pairwise_singleton _ _⟩
section
variable {F : Heap} {l : List Oper} {n i : Nat} {done : List Nat} {sl : List AV} {m : List Blk} {k : List AV → List Blk → Prop}
theorem ordH_first {o : Oper} {v : AV} {sl' : List AV} (hn : nextH P sl done 0 l = some (i, o)) (hc : chkP l done i = true) (hF : m[0]? = some (hpB F))
    (h : NOrdH P F l n (i :: done) sl' m k) {w0 : World} {S : Own} {a : Act} {w : World} (hs : Sim w0 S sl m a w) (hy : YieldsIf P l.toArray (HpS F) o v.den a) (hs' : SlotsOk sl' (a.put o.dst v.den).tmps) :
    wpAnyH P .any l.toArray (OrdQ w0 S k) (HpS F) (n + 1) (listedOf l.length done) a w := by
  obtain ⟨t, ht, ho⟩ := nextH_at l 0 i o hn
  obtain rfl : i = t := by omega
  simp only [chkP, Bool.and_eq_true] at hc
  obtain ⟨⟨h1, h2⟩, h3⟩ := hc
  have ho' : l.toArray[i]? = some o := by simpa using ho
  unfold NOrdH at h
  exact wpAnyH_take ho' h1 h2 h3 (fun c a w hq => by cases hq.1) hy (hs.mem.holds _ (List.mem_of_getElem? hF)) (h w0 S _ w (hs.step hs' hs.mem hs.fr hs.fresh))
theorem st_ordH1 {d : Option Tmp} {op : Op} {t : TypeId} {p : String} {e : Array Edge} (hn : nextH P sl done 0 l = some (i, ⟨d, op, t, p, e, none⟩)) (hc : chkP l done i = true) (hF : m[0]? = some (hpB F))
    (h : ∀ K : List AV → Prop, (∀ sl, NOrdH P F l n (i :: done) sl m k → K sl) → opV P sl [hpB F] op fun v => dstK sl d v K) : NOrdH P F l (n + 1) done sl m k := by
  unfold NOrdH
  intro w0 S a w hs
  obtain ⟨v, h1, h2⟩ := opV_spec hs.slots (h _ fun _ h => h)
  obtain ⟨sl', h3, h4⟩ := dstK_spec h1 hs.slots
  exact ordH_first hn hc hF h3 hs (.inl ⟨rfl, fun w hw => h2 w hw.mem _ rfl⟩) h4
theorem st_ordH1g {d : Option Tmp} {op : Op} {t : TypeId} {p : String} {e : Array Edge} {g : Nat × Bool} (hn : nextH P sl done 0 l = some (i, ⟨d, op, t, p, e, some g⟩)) (hc : chkP l done i = true) (hF : m[0]? = some (hpB F))
    (h : ∀ K : List AV → Prop, (∀ sl, NOrdH P F l n (i :: done) sl m k → K sl) → guardK l.toArray sl g.1 g.2 (opV P sl [hpB F] op fun v => dstK sl d v K) (dstK sl d (.raw undef) K)) : NOrdH P F l (n + 1) done sl m k := by
  unfold NOrdH
  intro w0 S a w hs
  rcases guardK_spec (h _ fun _ h => h) hs.slots (o := ⟨d, op, t, p, e, some g⟩) rfl with ⟨hw, h⟩ | ⟨hw, h⟩
  · obtain ⟨v, h1, h2⟩ := opV_spec hs.slots h
    obtain ⟨sl', h3, h4⟩ := dstK_spec h1 hs.slots
    exact ordH_first hn hc hF h3 hs (.inl ⟨hw, fun w hw => h2 w hw.mem _ rfl⟩) h4
  · obtain ⟨sl', h3, h4⟩ := dstK_spec h hs.slots
    exact ordH_first (v := .raw undef) hn hc hF h3 hs (.inr ⟨hw, rfl⟩) h4
theorem st_ordHA {rs : List (Nat × Oper)} (_hn : nextH P sl done 0 l = none) (hr : readys done 0 l = rs) (hc : chkR l done rs = true) (hne : rs ≠ []) (h : NEachH P F l n done sl m k rs) : NOrdH P F l (n + 1) done sl m k := by
  unfold NOrdH
  intro w0 S a w hs
  have hc : Region.ready .any l.toArray (listedOf l.length done) = rs.map (·.1) := by simpa [chkR] using hc
  refine wpAnyH_all hc (fun e => hne (by simpa using e)) fun i hi => ?_
  obtain ⟨x, hx, rfl⟩ := List.mem_map.1 hi
  obtain ⟨t, h1, h2⟩ := readys_at l 0 x (hr ▸ hx)
  unfold NEachH at h
  exact h x hx w0 S a w hs (by rw [h1]; simpa using h2)
theorem st_ordH0 (_hr : readys done 0 l = []) (hc : chkR l done [] = true) (h : k sl m) : NOrdH P F l n done sl m k := by
  unfold NOrdH
  intro w0 S a w hs
  have hc : Region.ready .any l.toArray (listedOf l.length done) = [] := by simpa [chkR] using hc
  exact wpAnyH_done hc ⟨rfl, sl, m, h, hs⟩ n
theorem st_eachH0 : NEachH P F l n done sl m k [] := by unfold NEachH; intro x hx; cases hx
theorem st_eachH {rs : List (Nat × Oper)} {d : Option Tmp} {op : Op} {t : TypeId} {p : String} {e : Array Edge}
    (h : ∀ K : List AV → List Blk → Prop, (∀ sl m, NOrdH P F l n (i :: done) sl m k → K sl m) → opM P sl m op fun v m' => NH (m'[0]? = some (hpB F)) (dstK sl d v fun sl' => K sl' m')) (hr : NEachH P F l n done sl m k rs) : NEachH P F l n done sl m k ((i, ⟨d, op, t, p, e, none⟩) :: rs) := by
  unfold NEachH at *
  intro x hx
  rcases List.mem_cons.1 hx with rfl | hx
  · intro w0 S a w hs ho
    unfold wpOp
    simp only [ho]
    rw [if_pos (show Region.wanted ⟨d, op, t, p, e, none⟩ (yielded l.toArray a.tmps) = true from rfl)]
    refine .inl (opM_spec hs.slots hs.mem hs.fr hs.fresh (o := ⟨d, op, t, p, e, none⟩) (h _ fun _ _ h => h) fun v m' w' hl => ?_)
    obtain ⟨h0, hk⟩ := NH_iff.1 hl.k
    obtain ⟨sl', h1, h2⟩ := dstK_spec hk hs.slots
    unfold NOrdH at h1
    exact ⟨hl.mem.holds _ (List.mem_of_getElem? h0), h1 w0 S _ _ (hs.step h2 hl.mem hl.fr hl.fresh)⟩
  · exact hr x hx
theorem st_eachHg {rs : List (Nat × Oper)} {d : Option Tmp} {op : Op} {t : TypeId} {p : String} {e : Array Edge} {g : Nat × Bool} (hF : m[0]? = some (hpB F))
    (h : ∀ K : List AV → List Blk → Prop, (∀ sl m, NOrdH P F l n (i :: done) sl m k → K sl m) → guardK l.toArray sl g.1 g.2 (opM P sl m op fun v m' => NH (m'[0]? = some (hpB F)) (dstK sl d v fun sl' => K sl' m')) (dstK sl d (.raw undef) fun sl' => K sl' m)) (hr : NEachH P F l n done sl m k rs) : NEachH P F l n done sl m k ((i, ⟨d, op, t, p, e, some g⟩) :: rs) := by
  unfold NEachH at *
  intro x hx
  rcases List.mem_cons.1 hx with rfl | hx
  · intro w0 S a w hs ho
    unfold wpOp
    simp only [ho]
    rcases guardK_spec (h _ fun _ _ h => h) hs.slots (o := ⟨d, op, t, p, e, some g⟩) rfl with ⟨hw, h⟩ | ⟨hw, h⟩
    · rw [if_pos hw]
      refine .inl (opM_spec hs.slots hs.mem hs.fr hs.fresh (o := ⟨d, op, t, p, e, some g⟩) h fun v m' w' hl => ?_)
      obtain ⟨h0, hk⟩ := NH_iff.1 hl.k
      obtain ⟨sl', h1, h2⟩ := dstK_spec hk hs.slots
      unfold NOrdH at h1
      exact ⟨hl.mem.holds _ (List.mem_of_getElem? h0), h1 w0 S _ _ (hs.step h2 hl.mem hl.fr hl.fresh)⟩
    · rw [if_neg (by simp [hw])]
      obtain ⟨sl', h3, h4⟩ := dstK_spec h hs.slots
      unfold NOrdH at h3
      exact ⟨hs.mem.holds _ (List.mem_of_getElem? hF), h3 w0 S _ _ (hs.step (v := undef) h4 hs.mem hs.fr hs.fresh)⟩
  · exact hr x hx
def downTo : Nat → List Nat
  | 0 => []
  | j + 1 => j :: downTo j
@[irreducible] def NOrdR (P : Program) (F : Heap) (l : List Oper) (n j : Nat) (rest : List Oper) (sl : List AV) (m : List Blk) (k : List AV → List Blk → Prop) : Prop :=
  l.drop j = rest → NOrdH P F l n (downTo j) sl m k
theorem st_orderR {Q : Post} {id : Nat} (hF : m[0]? = some (hpB F)) (h1 : P.follows .mixedOrders = true) (n : Nat) (hn : l.length = n) (h : NOrdR P F l n 0 l sl m (normS Q)) : codeK P (.region id l.toArray true) sl m Q := by
  unfold NOrdR at h
  exact st_orderH hF h1 n hn (h rfl)
theorem st_ordRout {j : Nat} {rest : List Oper} (h : NOrdH P F l n (downTo j) sl m k) : NOrdR P F l n j rest sl m k := by
  unfold NOrdR
  intro _
  exact h
end
end
theorem gNOH {P : Program} {F : Heap} {l : List Oper} {n : Nat} {sl : List AV} {m : List Blk} {k : List AV → List Blk → Prop} {done : List Nat} (h : NOrdH P F l n done sl m k) : NOrdH P F l n done sl m k := h
theorem gNEH {P : Program} {F : Heap} {l : List Oper} {n : Nat} {sl : List AV} {m : List Blk} {k : List AV → List Blk → Prop} {done : List Nat} {rs : List (Nat × Oper)} (h : NEachH P F l n done sl m k rs) : NEachH P F l n done sl m k rs := h
theorem gNRH {P : Program} {F : Heap} {l : List Oper} {n : Nat} {sl : List AV} {m : List Blk} {k : List AV → List Blk → Prop} {j : Nat} {rest : List Oper} (h : NOrdR P F l n j rest sl m k) : NOrdR P F l n j rest sl m k := h
end Go.Sx
