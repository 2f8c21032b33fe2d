/-
  Policies: what they are at a switch. Plain; Conditions: what they are pushed to, by the program. (Printed by gen_pd13.py.); DERIVED: THE SHELF's CONTRACTS AT THIS DUMP, IN PLAIN WORDS (tools/lay-plain.mjs out of 'TryzLayS.lean', which tools/lay-shelf.mjs wrote): THE SAME DECLARATIONS UNDER THE SAME NAMES: 'import', 'namespace', 'open', 'def', 'theorem' AND NOTHING ELSE: no command of the shelf's: FOR A HAND-IN. Each laying: the table of numbers ('.._ren') and one theorem, a field a fact of the dump's own or the kernel's comparison; each contract: ONE APPLICATION; Packets in a row of one's own, sorted by the library.
-/
import Derived.Test.YtngodakgbldlpaaGreatDoorTJ2
import Derived.Test.YtngodakgbldlpaaGreatDoorTPd12
import Derived.Shelf.SlSortCmp.WholeK
import Derived.Test.YtngodakgbldlpaaGreatDoorProg
import Derived.Test.YtngodakgbldlpaaGreatDoorTJ7
import Derived.Sort.OwnSortedInts
namespace Go.Proofs.YtngodakgbldlpaaGreatDoor
open Go.Sx
set_option maxRecDepth 20000
set_option linter.unusedVariables false
namespace Po
/-- What a fitting policy is made of. -/
theorem fits_iff {k : Int} {p : Pd.T} {f v : Int} {l : List T} : fits (.mk k p f v l) = true ↔ (k = 1 ∧ Pd.right p = true ∧ (f = 0 ∧ v = 0) ∧ l.length = 0 ∨ k = 2 ∧ p = noneP ∧ (0 ≤ f ∧ f ≤ 4) ∧ (0 ≤ v ∧ v ≤ Pd.top f) ∧ l.length = 0 ∨ (k = 3 ∨ k = 4) ∧ p = noneP ∧ (f = 0 ∧ v = 0) ∧ 2 ≤ l.length ∧ l.length ≤ 8 ∨ k = 5 ∧ Pd.right p = true ∧ (f = 0 ∧ v = 0) ∧ l.length = 2) ∧ ∀ x ∈ l, fits x = true := by
  have hl : fitsL l = true ↔ ∀ x ∈ l, fits x = true := by
    induction l with
    | nil => simp [fitsL]
    | cons x l ih => simp only [fitsL, Bool.and_eq_true, ih, List.mem_cons, forall_eq_or_imp]
  have hn : none p = true ↔ p = noneP := Pd.same_eq _ _
  rw [fits, Bool.and_eq_true, hl]
  unfold shape
  rw [decide_eq_true_eq, hn]
theorem right_fits' {x : T} (h : right x = true) : fits x = true := by
  unfold right at h
  simp only [Bool.and_eq_true] at h
  exact h.1
end Po
end Go.Proofs.YtngodakgbldlpaaGreatDoor
namespace Go.Proofs.YtngodakgbldlpaaGreatDoor
open Go.Sx
set_option maxRecDepth 20000
set_option maxHeartbeats 4000000
set_option linter.unusedVariables false
namespace Pd
theorem fits_mk {k f v : Int} {l : List T} (h : fits (.mk k f v l) = true) : (k = 3 ∧ (0 ≤ f ∧ f ≤ 5) ∧ (0 ≤ v ∧ v ≤ top f) ∧ l.length = 0 ∨ (k = 1 ∨ k = 2) ∧ f = 0 ∧ v = 0 ∧ l.length = 0 ∨ k = 4 ∧ f = 0 ∧ v = 0 ∧ l.length = 1 ∨ (k = 5 ∨ k = 6) ∧ f = 0 ∧ v = 0 ∧ 2 ≤ l.length ∧ l.length ≤ 8) ∧ ∀ x ∈ l, fits x = true := by
  rw [fits, Bool.and_eq_true, fitsL_iff] at h
  have h1 := h.1
  unfold shape at h1
  rw [decide_eq_true_eq] at h1
  exact ⟨h1, h.2⟩
theorem size_mk (k f v : Int) (l : List T) : size (.mk k f v l) = 1 + sizeL l := by rw [size]
end Pd
end Go.Proofs.YtngodakgbldlpaaGreatDoor
namespace Go.Proofs
open Go.Shelf
def Tryz.sortSent_ren : Go.Shelf.Ren := ⟨fun | 6 => 65 | 15 => 79 | 14 => 90 | 28 => 107 | 29 => 108 | 20 => 117 | 21 => 118 | 22 => 119 | 23 => 120 | 24 => 121 | 25 => 122 | 26 => 123 | 27 => 124 | 46 => 140 | 47 => 128 | 48 => 129 | 49 => 141 | 50 => 142 | 57 => 150 | n => n, fun | 22 => 44 | 24 => 63 | 25 => 72 | 3 => 3 | 39 => 107 | 0 => 0 | 53 => 140 | 55 => 142 | 4 => 4 | 46 => 132 | 45 => 131 | 50 => 137 | 5 => 5 | 9 => 9 | 66 => 151 | 70 => 155 | 76 => 167 | 77 => 168 | n => n, fun | n => n⟩
theorem Tryz.sortSent : Go.Proofs.SlLaysF0.n6 Tryz.prog Tryz.sortSent_ren := {
  mixed := by kernel_rfl
  f6 := ⟨Tryz.f65.name, by decide, Tryz.func65.trans (congrArg some (by kernel_rfl))⟩
  f14 := ⟨Tryz.f90.name, by decide, Tryz.func90.trans (congrArg some (by kernel_rfl))⟩
  f15 := Tryz.func79.trans (congrArg some (by kernel_rfl))
  f20 := ⟨Tryz.f117.name, by decide, Tryz.func117.trans (congrArg some (by kernel_rfl))⟩
  f21 := ⟨Tryz.f118.name, by decide, Tryz.func118.trans (congrArg some (by kernel_rfl))⟩
  f22 := ⟨Tryz.f119.name, by decide, Tryz.func119.trans (congrArg some (by kernel_rfl))⟩
  f23 := ⟨Tryz.f120.name, by decide, Tryz.func120.trans (congrArg some (by kernel_rfl))⟩
  f24 := ⟨Tryz.f121.name, by decide, Tryz.func121.trans (congrArg some (by kernel_rfl))⟩
  f25 := ⟨Tryz.f122.name, by decide, Tryz.func122.trans (congrArg some (by kernel_rfl))⟩
  f26 := ⟨Tryz.f123.name, by decide, Tryz.func123.trans (congrArg some (by kernel_rfl))⟩
  f27 := ⟨Tryz.f124.name, by decide, Tryz.func124.trans (congrArg some (by kernel_rfl))⟩
  f28 := Tryz.func107.trans (congrArg some (by kernel_rfl))
  f29 := Tryz.func108.trans (congrArg some (by kernel_rfl))
  f46 := ⟨Tryz.f140.name, by decide, Tryz.func140.trans (congrArg some (by kernel_rfl))⟩
  f47 := Tryz.func128.trans (congrArg some (by kernel_rfl))
  f48 := Tryz.func129.trans (congrArg some (by kernel_rfl))
  f49 := ⟨Tryz.f141.name, by decide, Tryz.func141.trans (congrArg some (by kernel_rfl))⟩
  f50 := ⟨Tryz.f142.name, by decide, Tryz.func142.trans (congrArg some (by kernel_rfl))⟩
  f57 := ⟨Tryz.f150.name, by decide, Tryz.func150.trans (congrArg some (by kernel_rfl))⟩
  t0 := Tryz.underlying0
  a0 := Tryz.isAgg0
  z0 := Tryz.sizeOf0
  v0 := Tryz.zeroValue0
  t3 := Tryz.underlying3
  a3 := Tryz.isAgg3
  z3 := Tryz.sizeOf3
  v3 := Tryz.zeroValue3
  t4 := Tryz.underlying4
  a4 := Tryz.isAgg4
  z4 := Tryz.sizeOf4
  v4 := Tryz.zeroValue4
  t5 := Tryz.underlying5
  a5 := Tryz.isAgg5
  z5 := Tryz.sizeOf5
  v5 := Tryz.zeroValue5
  t9 := Tryz.underlying9
  a9 := Tryz.isAgg9
  z9 := Tryz.sizeOf9
  v9 := Tryz.zeroValue9
  t22 := Tryz.underlying44
  a22 := Tryz.isAgg44
  z22 := Tryz.sizeOf44
  v22 := Tryz.zeroValue44
  t25 := Tryz.underlying72
  a25 := Tryz.isAgg72
  z25 := Tryz.sizeOf72
  v25 := Tryz.zeroValue72
  t39 := Tryz.underlying107
  a39 := Tryz.isAgg107
  z39 := Tryz.sizeOf107
  v39 := Tryz.zeroValue107
  t45 := Tryz.underlying131
  a45 := Tryz.isAgg131
  z45 := Tryz.sizeOf131
  v45 := Tryz.zeroValue131
  t46 := Tryz.underlying132
  a46 := Tryz.isAgg132
  z46 := Tryz.sizeOf132
  v46 := Tryz.zeroValue132
  t50 := Tryz.underlying137
  a50 := Tryz.isAgg137
  z50 := Tryz.sizeOf137
  v50 := Tryz.zeroValue137
  t53 := Tryz.underlying140
  a53 := Tryz.isAgg140
  z53 := Tryz.sizeOf140
  v53 := Tryz.zeroValue140
  t55 := Tryz.underlying142
  a55 := Tryz.isAgg142
  z55 := Tryz.sizeOf142
  v55 := Tryz.zeroValue142
  t66 := Tryz.underlying151
  a66 := Tryz.isAgg151
  z66 := Tryz.sizeOf151
  v66 := Tryz.zeroValue151
  t70 := Tryz.underlying155
  a70 := Tryz.isAgg155
  z70 := Tryz.sizeOf155
  v70 := Tryz.zeroValue155
  t76 := Tryz.underlying167
  a76 := Tryz.isAgg167
  z76 := Tryz.sizeOf167
  v76 := Tryz.zeroValue167
  t77 := Tryz.underlying168
  a77 := Tryz.isAgg168
  z77 := Tryz.sizeOf168
  v77 := Tryz.zeroValue168 }
end Go.Proofs
namespace Go.Proofs.YtngodakgbldlpaaGreatDoor
open Go.Sx
set_option maxRecDepth 20000
set_option maxHeartbeats 4000000
set_option linter.unusedVariables false
section
open Go.Sort Go.Proofs Go.RowKit
theorem holds_of_blockV {w : World} {g : Nat} {cur : Array Value} {e : TypeId} {ss : List Value} (hb : w.heap[g]? = some (.cells cur e (0, 0))) (ht : cur.toList.take ss.length = ss) : Holds id w g 0 ss.toArray := by
  intro j hj
  have hj' : j < ss.length := by simpa using hj
  refine ⟨?_, by simp [World.frozen?, hb]⟩
  have h1 : (cur.toList.take ss.length)[j]? = ss[j]? := by rw [ht]
  rw [List.getElem?_take_of_lt hj'] at h1
  simp only [World.cell?, hb, Nat.zero_add]
  simp only [Option.isSome_none, Bool.false_eq_true, if_false]
  rw [← Array.getElem?_toList, h1]
  simp [hj']
theorem heap_sortedV {w : World} {g n : Nat} {os : Array Obj} {cur : Array Value} {e : TypeId} {fr : Nat × Nat} (d : Array Value) (hb : w.heap[g]? = some (.cells cur e fr)) :
    (grow (putRow id (Sort.ahead w n) g 0 d) os).heap[g]? = some (.cells (putCells id 0 d cur) e fr) := by
  have hg : g < w.heap.size := (Array.getElem?_eq_some_iff.1 hb).1
  rw [heap_grow_old _ _ (by simpa using hg)]
  simp [putRow, mapBlock, Sort.ahead, Array.getElem?_modify, hb, onCells]
theorem grownBy_sortedV {w : World} {g n : Nat} {os : Array Obj} (d : Array Value) : w.grownBy (grow (putRow id (Sort.ahead w n) g 0 d) os) (some g) := by
  refine ⟨rfl, rfl, rfl, by simp, fun k hk hne => ?_⟩
  rw [heap_grow_old _ _ (by simpa using hk)]
  have : g ≠ k := fun e => hne (by rw [e])
  simp [putRow, mapBlock, Sort.ahead, Array.getElem?_modify, this]
theorem take_putCellsV (cur : Array Value) (ts : List Value) (h : ts.length ≤ cur.size) : (putCells id 0 ts.toArray cur).toList.take ts.length = ts := by
  apply List.ext_getElem?
  intro j
  by_cases hj : j < ts.length
  · rw [List.getElem?_take_of_lt hj, Array.getElem?_toList]
    simp [putCells, hj, show j < cur.size by omega]
  · rw [List.getElem?_take_eq_none (by omega), List.getElem?_eq_none (by omega)]
end
namespace Po
instance : Inhabited S := ⟨⟨0, 0, 0, 0, 0⟩⟩
def savs (L : List S) : List AV := L.flatMap S.av
theorem savs_den : ∀ L : List S, denL (savs L) = L.flatMap S.vs
  | [] => rfl
  | s :: L => by
    have := savs_den L
    unfold savs at *
    rw [List.flatMap_cons, List.flatMap_cons, denL_append, this]
    rfl
theorem savs_len (L : List S) : (savs L).length = L.length * 5 := by
  induction L with
  | nil => rfl
  | cons s L ih => unfold savs at *; rw [List.flatMap_cons, List.length_append, ih, List.length_cons]; simp [S.av]; omega
theorem savs_append (L M : List S) : savs (L ++ M) = savs L ++ savs M := by unfold savs; rw [List.flatMap_append]
theorem vs_len (s : S) : s.vs.length = 5 := rfl
theorem flat_at : ∀ (L : List S) (i j : Nat), i < L.length → j < 5 → (L.flatMap S.vs)[i * 5 + j]? = (L.getD i default).vs[j]?
  | [], i, j, hi, _ => by simp at hi
  | s :: L, 0, j, _, hj => by
    rw [List.flatMap_cons, List.getElem?_append_left (by rw [vs_len]; omega)]
    simp
  | s :: L, i + 1, j, hi, hj => by
    rw [List.flatMap_cons, List.getElem?_append_right (by rw [vs_len]; omega), vs_len, show (i + 1) * 5 + j - 5 = i * 5 + j by omega, flat_at L i j (by simpa using hi) hj]
    simp
theorem flat_len (L : List S) : (L.flatMap S.vs).length = L.length * 5 := by
  rw [← savs_den, denL_length, savs_len]
theorem flatK_eq (L : List S) : Go.Sort.flatK S.vs 5 L.toArray = (L.flatMap S.vs).toArray := by
  apply Array.ext
  · rw [Go.Sort.size_flatK]; simp only [List.size_toArray, flat_len]
  · intro t h1 h2
    rw [Go.Sort.size_flatK, List.size_toArray] at h1
    have e := Go.Sort.get_flatK S.vs 5 L.toArray t (by simpa using h1)
    rw [getElem!_pos _ t (by rw [Go.Sort.size_flatK, List.size_toArray]; exact h1)] at e
    rw [e]
    have hi : t / 5 < L.length := by omega
    have hj : t % 5 < 5 := by omega
    have h3 := flat_at L (t / 5) (t % 5) hi hj
    rw [show t / 5 * 5 + t % 5 = t by omega] at h3
    have h4 : (L.flatMap S.vs)[t]? = some ((L.flatMap S.vs)[t]'(by simpa using h2)) := List.getElem?_eq_getElem _
    rw [h4, List.getD_eq_getElem?_getD, List.getElem?_eq_getElem hi, Option.getD_some, List.getElem?_eq_getElem (by rw [vs_len]; exact hj)] at h3
    injection h3 with h3
    rw [List.getElem_toArray, h3]
    have h5 : L.toArray[t / 5]! = L[t / 5] := by rw [getElem!_pos _ _ (by simpa using hi)]; simp
    rw [h5, getElem!_pos _ _ (by rw [vs_len]; exact hj)]
end Po
end Go.Proofs.YtngodakgbldlpaaGreatDoor
