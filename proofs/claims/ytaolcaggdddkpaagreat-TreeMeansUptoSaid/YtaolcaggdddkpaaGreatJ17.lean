/-
  Packets in a row of one's own, sorted by the library; Which packets a map's iterator has given. Plain.
-/
import Derived.Test.YtaolcaggdddkpaaGreatJ16
import Derived.Sort.OwnSortedInts
import Derived.Test.YtaolcaggdddkpaaGreatJ15
namespace Go.Proofs.YtaolcaggdddkpaaGreat
open Go.Sx
set_option maxRecDepth 20000
set_option maxHeartbeats 4000000
set_option linter.unusedVariables false
section
open Go.Sort Go.Proofs Go.RowKit
theorem holds_of_blockV {w : World} {g : Nat} {cur : Array Value} {e : TypeId} {ss : List Value} (hb : w.heap[g]? = some (.cells cur e (0, 0))) (ht : cur.toList.take ss.length = ss) : Holds id w g 0 ss.toArray := by
  intro j hj
  have hj' : j < ss.length := by simpa using hj
  refine ⟨?_, by simp [World.frozen?, hb]⟩
  have h1 : (cur.toList.take ss.length)[j]? = ss[j]? := by rw [ht]
  rw [List.getElem?_take_of_lt hj'] at h1
  simp only [World.cell?, hb, Nat.zero_add]
  simp only [Option.isSome_none, Bool.false_eq_true, if_false]
  rw [← Array.getElem?_toList, h1]
  simp [hj']
theorem heap_sortedV {w : World} {g n : Nat} {os : Array Obj} {cur : Array Value} {e : TypeId} {fr : Nat × Nat} (d : Array Value) (hb : w.heap[g]? = some (.cells cur e fr)) :
    (grow (putRow id (Sort.ahead w n) g 0 d) os).heap[g]? = some (.cells (putCells id 0 d cur) e fr) := by
  have hg : g < w.heap.size := (Array.getElem?_eq_some_iff.1 hb).1
  rw [heap_grow_old _ _ (by simpa using hg)]
  simp [putRow, mapBlock, Sort.ahead, Array.getElem?_modify, hb, onCells]
theorem grownBy_sortedV {w : World} {g n : Nat} {os : Array Obj} (d : Array Value) : w.grownBy (grow (putRow id (Sort.ahead w n) g 0 d) os) (some g) := by
  refine ⟨rfl, rfl, rfl, by simp, fun k hk hne => ?_⟩
  rw [heap_grow_old _ _ (by simpa using hk)]
  have : g ≠ k := fun e => hne (by rw [e])
  simp [putRow, mapBlock, Sort.ahead, Array.getElem?_modify, this]
theorem take_putCellsV (cur : Array Value) (ts : List Value) (h : ts.length ≤ cur.size) : (putCells id 0 ts.toArray cur).toList.take ts.length = ts := by
  apply List.ext_getElem?
  intro j
  by_cases hj : j < ts.length
  · rw [List.getElem?_take_of_lt hj, Array.getElem?_toList]
    simp [putCells, hj, show j < cur.size by omega]
  · rw [List.getElem?_take_eq_none (by omega), List.getElem?_eq_none (by omega)]
end
namespace Po
instance : Inhabited S := ⟨⟨0, 0, 0, 0, 0⟩⟩
def savs (L : List S) : List AV := L.flatMap S.av
theorem savs_den : ∀ L : List S, denL (savs L) = L.flatMap S.vs
  | [] => rfl
  | s :: L => by
    have := savs_den L
    unfold savs at *
    rw [List.flatMap_cons, List.flatMap_cons, denL_append, this]
    rfl
theorem savs_len (L : List S) : (savs L).length = L.length * 5 := by
  induction L with
  | nil => rfl
  | cons s L ih => unfold savs at *; rw [List.flatMap_cons, List.length_append, ih, List.length_cons]; simp [S.av]; omega
theorem savs_append (L M : List S) : savs (L ++ M) = savs L ++ savs M := by unfold savs; rw [List.flatMap_append]
theorem vs_len (s : S) : s.vs.length = 5 := rfl
theorem flat_at : ∀ (L : List S) (i j : Nat), i < L.length → j < 5 → (L.flatMap S.vs)[i * 5 + j]? = (L.getD i default).vs[j]?
  | [], i, j, hi, _ => by simp at hi
  | s :: L, 0, j, _, hj => by
    rw [List.flatMap_cons, List.getElem?_append_left (by rw [vs_len]; omega)]
    simp
  | s :: L, i + 1, j, hi, hj => by
    rw [List.flatMap_cons, List.getElem?_append_right (by rw [vs_len]; omega), vs_len, show (i + 1) * 5 + j - 5 = i * 5 + j by omega, flat_at L i j (by simpa using hi) hj]
    simp
theorem flat_len (L : List S) : (L.flatMap S.vs).length = L.length * 5 := by
  rw [← savs_den, denL_length, savs_len]
theorem flatK_eq (L : List S) : Go.Sort.flatK S.vs 5 L.toArray = (L.flatMap S.vs).toArray := by
  apply Array.ext
  · rw [Go.Sort.size_flatK]; simp only [List.size_toArray, flat_len]
  · intro t h1 h2
    rw [Go.Sort.size_flatK, List.size_toArray] at h1
    have e := Go.Sort.get_flatK S.vs 5 L.toArray t (by simpa using h1)
    rw [getElem!_pos _ t (by rw [Go.Sort.size_flatK, List.size_toArray]; exact h1)] at e
    rw [e]
    have hi : t / 5 < L.length := by omega
    have hj : t % 5 < 5 := by omega
    have h3 := flat_at L (t / 5) (t % 5) hi hj
    rw [show t / 5 * 5 + t % 5 = t by omega] at h3
    have h4 : (L.flatMap S.vs)[t]? = some ((L.flatMap S.vs)[t]'(by simpa using h2)) := List.getElem?_eq_getElem _
    rw [h4, List.getD_eq_getElem?_getD, List.getElem?_eq_getElem hi, Option.getD_some, List.getElem?_eq_getElem (by rw [vs_len]; exact hj)] at h3
    injection h3 with h3
    rw [List.getElem_toArray, h3]
    have h5 : L.toArray[t / 5]! = L[t / 5] := by rw [getElem!_pos _ _ (by simpa using hi)]; simp
    rw [h5, getElem!_pos _ _ (by rw [vs_len]; exact hj)]
end Po
end Go.Proofs.YtaolcaggdddkpaaGreat
namespace Go.Proofs.YtaolcaggdddkpaaGreat
open Go.Sx
set_option maxRecDepth 20000
set_option linter.unusedVariables false
namespace Po
def okPre (N : List S) (seen : Array Nat) (pre : List S) : Prop := seen.toList.Nodup ∧ (∀ i ∈ seen.toList, i < N.length) ∧ pre = seen.toList.map fun i => N.getD i default
theorem okPre_start (N : List S) : okPre N #[] [] := ⟨List.nodup_nil, fun i h => by simp at h, rfl⟩
theorem okPre_push {N : List S} {seen : Array Nat} {pre : List S} {i : Nat} {t : S} (h : okPre N seen pre) (hi : N[i]? = some t) (hs : seen.contains i = false) : okPre N (seen.push i) (pre ++ [t]) := by
  obtain ⟨h1, h2, h3⟩ := h
  have hlt := (List.getElem?_eq_some_iff.1 hi).1
  have hno : i ∉ seen.toList := fun hm => by
    have := Array.contains_iff_mem.2 (Array.mem_toList_iff.1 hm)
    rw [hs] at this
    cases this
  refine ⟨?_, fun j hj => ?_, ?_⟩
  · rw [Array.toList_push, List.nodup_append]
    exact ⟨h1, by simp, fun a ha b hb e => by rw [List.mem_singleton.1 hb] at e; exact hno (e ▸ ha)⟩
  · rw [Array.toList_push, List.mem_append] at hj
    rcases hj with hj | hj
    · exact h2 j hj
    · rw [List.mem_singleton.1 hj]; exact hlt
  · rw [Array.toList_push, List.map_append, h3]
    simp [List.getD_eq_getElem?_getD, hi]
theorem nodup_lenN : ∀ (a b : List Nat), a.Nodup → (∀ x ∈ a, x ∈ b) → a.length ≤ b.length
  | [], _, _, _ => Nat.zero_le _
  | x :: a, b, hn, hs => by
    rw [List.nodup_cons] at hn
    have hx : x ∈ b := hs x (by simp)
    have := nodup_lenN a (b.erase x) hn.2 fun y hy => (List.mem_erase_of_ne (fun e => hn.1 (by rw [← e]; exact hy))).2 (hs y (by simp [hy]))
    rw [List.length_erase_of_mem hx] at this
    have := List.length_pos_of_mem hx
    rw [List.length_cons]
    omega
theorem okPre_lt {N : List S} {seen : Array Nat} {pre : List S} {i : Nat} {t : S} (h : okPre N seen pre) (hi : N[i]? = some t) (hs : seen.contains i = false) : pre.length < N.length := by
  obtain ⟨h1, h2, h3⟩ := okPre_push h hi hs
  have := nodup_lenN _ (List.range N.length) h1 fun j hj => List.mem_range.2 (h2 j hj)
  rw [List.length_range] at this
  have e := congrArg List.length h3
  rw [List.length_map, List.length_append, List.length_singleton] at e
  omega
theorem okPre_end {N : List S} {seen : Array Nat} {pre : List S} (h : okPre N seen pre) (hall : ∀ i, i < N.length → seen.contains i = true) : pre.Perm N := by
  obtain ⟨h1, h2, h3⟩ := h
  have hp : seen.toList.Perm (List.range N.length) := by
    rw [List.perm_iff_count]
    intro i
    have hr : (List.range N.length).Nodup := List.nodup_range
    rw [h1.count, hr.count]
    have e : i ∈ seen.toList ↔ i ∈ List.range N.length := ⟨fun hm => List.mem_range.2 (h2 i hm), fun hm => Array.mem_toList_iff.2 (Array.contains_iff_mem.1 (hall i (List.mem_range.1 hm)))⟩
    simp only [e]
  have hm : (List.range N.length).map (fun i => N.getD i default) = N := by
    apply List.ext_getElem?
    intro i
    rw [List.getElem?_map]
    by_cases hi : i < N.length
    · rw [List.getElem?_range hi, List.getElem?_eq_getElem hi]
      simp [List.getD_eq_getElem?_getD, hi]
    · rw [List.getElem?_eq_none (by rw [List.length_range]; omega), List.getElem?_eq_none (by omega)]; rfl
  rw [h3]
  exact (hp.map _).trans (by rw [hm])
/-- A list of packets, sorted, each once: the one that there is. -/
theorem sorted_eq {N L R : List S} (hp : L.Perm N) (hn : N.Nodup) (hs : L.Pairwise (fun x y => ¬ ahead y x)) (hR : Rising R) (hm : ∀ t, t ∈ N ↔ t ∈ R) : L = R := by
  refine rising_eq ?_ hR fun t => (hp.mem_iff).trans (hm t)
  have hnd : L.Nodup := hp.nodup_iff.2 hn
  refine (hs.and hnd).imp fun {x y} h => Classical.byContradiction fun hna => h.2 (ahead_or hna h.1)
end Po
end Go.Proofs.YtaolcaggdddkpaaGreat
