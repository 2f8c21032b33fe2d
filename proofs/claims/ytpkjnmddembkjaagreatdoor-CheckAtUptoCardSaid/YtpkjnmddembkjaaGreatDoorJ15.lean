/-
  DERIVED: THE SHELF's CONTRACTS AT THIS DUMP, IN PLAIN WORDS (tools/lay-plain.mjs out of 'TryzLayS.lean', which tools/lay-shelf.mjs wrote): THE SAME DECLARATIONS UNDER THE SAME NAMES: 'import', 'namespace', 'open', 'def', 'theorem' AND NOTHING ELSE: no command of the shelf's: FOR A HAND-IN. Each laying: the table of numbers ('.._ren') and one theorem, a field a fact of the dump's own or the kernel's comparison; each contract: ONE APPLICATION; Packets in a row of one's own, sorted by the library.
-/
import Derived.Shelf.SlSortCmp.WholeK
import Derived.Test.YtpkjnmddembkjaaGreatDoorProg
import Derived.Test.YtpkjnmddembkjaaGreatDoorJ14
import Derived.Sort.OwnSortedInts
namespace Go.Proofs
open Go.Shelf
def Tryz.sortSent_ren : Go.Shelf.Ren := ⟨fun | 6 => 96 | 15 => 92 | 14 => 126 | 28 => 122 | 29 => 123 | 20 => 140 | 21 => 141 | 22 => 142 | 23 => 143 | 24 => 144 | 25 => 145 | 26 => 146 | 27 => 147 | 46 => 157 | 47 => 135 | 48 => 136 | 49 => 158 | 50 => 159 | 57 => 165 | n => n, fun | 22 => 67 | 24 => 96 | 25 => 104 | 3 => 3 | 39 => 127 | 0 => 0 | 53 => 160 | 55 => 162 | 4 => 4 | 46 => 152 | 45 => 151 | 50 => 157 | 5 => 5 | 9 => 9 | 66 => 169 | 70 => 173 | 76 => 188 | 77 => 189 | n => n, fun | n => n⟩
theorem Tryz.sortSent : Go.Proofs.SlLaysF0.n6 Tryz.prog Tryz.sortSent_ren := {
  mixed := by kernel_rfl
  f6 := ⟨Tryz.f96.name, by decide, Tryz.func96.trans (congrArg some (by kernel_rfl))⟩
  f14 := ⟨Tryz.f126.name, by decide, Tryz.func126.trans (congrArg some (by kernel_rfl))⟩
  f15 := Tryz.func92.trans (congrArg some (by kernel_rfl))
  f20 := ⟨Tryz.f140.name, by decide, Tryz.func140.trans (congrArg some (by kernel_rfl))⟩
  f21 := ⟨Tryz.f141.name, by decide, Tryz.func141.trans (congrArg some (by kernel_rfl))⟩
  f22 := ⟨Tryz.f142.name, by decide, Tryz.func142.trans (congrArg some (by kernel_rfl))⟩
  f23 := ⟨Tryz.f143.name, by decide, Tryz.func143.trans (congrArg some (by kernel_rfl))⟩
  f24 := ⟨Tryz.f144.name, by decide, Tryz.func144.trans (congrArg some (by kernel_rfl))⟩
  f25 := ⟨Tryz.f145.name, by decide, Tryz.func145.trans (congrArg some (by kernel_rfl))⟩
  f26 := ⟨Tryz.f146.name, by decide, Tryz.func146.trans (congrArg some (by kernel_rfl))⟩
  f27 := ⟨Tryz.f147.name, by decide, Tryz.func147.trans (congrArg some (by kernel_rfl))⟩
  f28 := Tryz.func122.trans (congrArg some (by kernel_rfl))
  f29 := Tryz.func123.trans (congrArg some (by kernel_rfl))
  f46 := ⟨Tryz.f157.name, by decide, Tryz.func157.trans (congrArg some (by kernel_rfl))⟩
  f47 := Tryz.func135.trans (congrArg some (by kernel_rfl))
  f48 := Tryz.func136.trans (congrArg some (by kernel_rfl))
  f49 := ⟨Tryz.f158.name, by decide, Tryz.func158.trans (congrArg some (by kernel_rfl))⟩
  f50 := ⟨Tryz.f159.name, by decide, Tryz.func159.trans (congrArg some (by kernel_rfl))⟩
  f57 := ⟨Tryz.f165.name, by decide, Tryz.func165.trans (congrArg some (by kernel_rfl))⟩
  t0 := Tryz.underlying0
  a0 := Tryz.isAgg0
  z0 := Tryz.sizeOf0
  v0 := Tryz.zeroValue0
  t3 := Tryz.underlying3
  a3 := Tryz.isAgg3
  z3 := Tryz.sizeOf3
  v3 := Tryz.zeroValue3
  t4 := Tryz.underlying4
  a4 := Tryz.isAgg4
  z4 := Tryz.sizeOf4
  v4 := Tryz.zeroValue4
  t5 := Tryz.underlying5
  a5 := Tryz.isAgg5
  z5 := Tryz.sizeOf5
  v5 := Tryz.zeroValue5
  t9 := Tryz.underlying9
  a9 := Tryz.isAgg9
  z9 := Tryz.sizeOf9
  v9 := Tryz.zeroValue9
  t22 := Tryz.underlying67
  a22 := Tryz.isAgg67
  z22 := Tryz.sizeOf67
  v22 := Tryz.zeroValue67
  t25 := Tryz.underlying104
  a25 := Tryz.isAgg104
  z25 := Tryz.sizeOf104
  v25 := Tryz.zeroValue104
  t39 := Tryz.underlying127
  a39 := Tryz.isAgg127
  z39 := Tryz.sizeOf127
  v39 := Tryz.zeroValue127
  t45 := Tryz.underlying151
  a45 := Tryz.isAgg151
  z45 := Tryz.sizeOf151
  v45 := Tryz.zeroValue151
  t46 := Tryz.underlying152
  a46 := Tryz.isAgg152
  z46 := Tryz.sizeOf152
  v46 := Tryz.zeroValue152
  t50 := Tryz.underlying157
  a50 := Tryz.isAgg157
  z50 := Tryz.sizeOf157
  v50 := Tryz.zeroValue157
  t53 := Tryz.underlying160
  a53 := Tryz.isAgg160
  z53 := Tryz.sizeOf160
  v53 := Tryz.zeroValue160
  t55 := Tryz.underlying162
  a55 := Tryz.isAgg162
  z55 := Tryz.sizeOf162
  v55 := Tryz.zeroValue162
  t66 := Tryz.underlying169
  a66 := Tryz.isAgg169
  z66 := Tryz.sizeOf169
  v66 := Tryz.zeroValue169
  t70 := Tryz.underlying173
  a70 := Tryz.isAgg173
  z70 := Tryz.sizeOf173
  v70 := Tryz.zeroValue173
  t76 := Tryz.underlying188
  a76 := Tryz.isAgg188
  z76 := Tryz.sizeOf188
  v76 := Tryz.zeroValue188
  t77 := Tryz.underlying189
  a77 := Tryz.isAgg189
  z77 := Tryz.sizeOf189
  v77 := Tryz.zeroValue189 }
end Go.Proofs
namespace Go.Proofs.YtpkjnmddembkjaaGreatDoor
open Go.Sx
set_option maxRecDepth 20000
set_option maxHeartbeats 4000000
set_option linter.unusedVariables false
section
open Go.Sort Go.Proofs Go.RowKit
theorem holds_of_blockV {w : World} {g : Nat} {cur : Array Value} {e : TypeId} {ss : List Value} (hb : w.heap[g]? = some (.cells cur e (0, 0))) (ht : cur.toList.take ss.length = ss) : Holds id w g 0 ss.toArray := by
  intro j hj
  have hj' : j < ss.length := by simpa using hj
  refine ⟨?_, by simp [World.frozen?, hb]⟩
  have h1 : (cur.toList.take ss.length)[j]? = ss[j]? := by rw [ht]
  rw [List.getElem?_take_of_lt hj'] at h1
  simp only [World.cell?, hb, Nat.zero_add]
  simp only [Option.isSome_none, Bool.false_eq_true, if_false]
  rw [← Array.getElem?_toList, h1]
  simp [hj']
theorem heap_sortedV {w : World} {g n : Nat} {os : Array Obj} {cur : Array Value} {e : TypeId} {fr : Nat × Nat} (d : Array Value) (hb : w.heap[g]? = some (.cells cur e fr)) :
    (grow (putRow id (Sort.ahead w n) g 0 d) os).heap[g]? = some (.cells (putCells id 0 d cur) e fr) := by
  have hg : g < w.heap.size := (Array.getElem?_eq_some_iff.1 hb).1
  rw [heap_grow_old _ _ (by simpa using hg)]
  simp [putRow, mapBlock, Sort.ahead, Array.getElem?_modify, hb, onCells]
theorem grownBy_sortedV {w : World} {g n : Nat} {os : Array Obj} (d : Array Value) : w.grownBy (grow (putRow id (Sort.ahead w n) g 0 d) os) (some g) := by
  refine ⟨rfl, rfl, rfl, by simp, fun k hk hne => ?_⟩
  rw [heap_grow_old _ _ (by simpa using hk)]
  have : g ≠ k := fun e => hne (by rw [e])
  simp [putRow, mapBlock, Sort.ahead, Array.getElem?_modify, this]
theorem take_putCellsV (cur : Array Value) (ts : List Value) (h : ts.length ≤ cur.size) : (putCells id 0 ts.toArray cur).toList.take ts.length = ts := by
  apply List.ext_getElem?
  intro j
  by_cases hj : j < ts.length
  · rw [List.getElem?_take_of_lt hj, Array.getElem?_toList]
    simp [putCells, hj, show j < cur.size by omega]
  · rw [List.getElem?_take_eq_none (by omega), List.getElem?_eq_none (by omega)]
end
namespace Po
instance : Inhabited S := ⟨⟨0, 0, 0, 0, 0⟩⟩
def savs (L : List S) : List AV := L.flatMap S.av
theorem savs_den : ∀ L : List S, denL (savs L) = L.flatMap S.vs
  | [] => rfl
  | s :: L => by
    have := savs_den L
    unfold savs at *
    rw [List.flatMap_cons, List.flatMap_cons, denL_append, this]
    rfl
theorem savs_len (L : List S) : (savs L).length = L.length * 5 := by
  induction L with
  | nil => rfl
  | cons s L ih => unfold savs at *; rw [List.flatMap_cons, List.length_append, ih, List.length_cons]; simp [S.av]; omega
theorem savs_append (L M : List S) : savs (L ++ M) = savs L ++ savs M := by unfold savs; rw [List.flatMap_append]
theorem vs_len (s : S) : s.vs.length = 5 := rfl
theorem flat_at : ∀ (L : List S) (i j : Nat), i < L.length → j < 5 → (L.flatMap S.vs)[i * 5 + j]? = (L.getD i default).vs[j]?
  | [], i, j, hi, _ => by simp at hi
  | s :: L, 0, j, _, hj => by
    rw [List.flatMap_cons, List.getElem?_append_left (by rw [vs_len]; omega)]
    simp
  | s :: L, i + 1, j, hi, hj => by
    rw [List.flatMap_cons, List.getElem?_append_right (by rw [vs_len]; omega), vs_len, show (i + 1) * 5 + j - 5 = i * 5 + j by omega, flat_at L i j (by simpa using hi) hj]
    simp
theorem flat_len (L : List S) : (L.flatMap S.vs).length = L.length * 5 := by
  rw [← savs_den, denL_length, savs_len]
theorem flatK_eq (L : List S) : Go.Sort.flatK S.vs 5 L.toArray = (L.flatMap S.vs).toArray := by
  apply Array.ext
  · rw [Go.Sort.size_flatK]; simp only [List.size_toArray, flat_len]
  · intro t h1 h2
    rw [Go.Sort.size_flatK, List.size_toArray] at h1
    have e := Go.Sort.get_flatK S.vs 5 L.toArray t (by simpa using h1)
    rw [getElem!_pos _ t (by rw [Go.Sort.size_flatK, List.size_toArray]; exact h1)] at e
    rw [e]
    have hi : t / 5 < L.length := by omega
    have hj : t % 5 < 5 := by omega
    have h3 := flat_at L (t / 5) (t % 5) hi hj
    rw [show t / 5 * 5 + t % 5 = t by omega] at h3
    have h4 : (L.flatMap S.vs)[t]? = some ((L.flatMap S.vs)[t]'(by simpa using h2)) := List.getElem?_eq_getElem _
    rw [h4, List.getD_eq_getElem?_getD, List.getElem?_eq_getElem hi, Option.getD_some, List.getElem?_eq_getElem (by rw [vs_len]; exact hj)] at h3
    injection h3 with h3
    rw [List.getElem_toArray, h3]
    have h5 : L.toArray[t / 5]! = L[t / 5] := by rw [getElem!_pos _ _ (by simpa using hi)]; simp
    rw [h5, getElem!_pos _ _ (by rw [vs_len]; exact hj)]
end Po
end Go.Proofs.YtpkjnmddembkjaaGreatDoor
