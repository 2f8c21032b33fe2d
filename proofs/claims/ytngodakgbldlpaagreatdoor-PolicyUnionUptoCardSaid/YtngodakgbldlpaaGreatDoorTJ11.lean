/-
  Maps of packets: gone through, copied; Which packets a map's iterator has given. Plain.
-/
import Derived.Test.YtngodakgbldlpaaGreatDoorTJ10
import Derived.Test.YtngodakgbldlpaaGreatDoorTJ3
namespace Go.Proofs.YtngodakgbldlpaaGreatDoor
open Go.Sx
set_option maxRecDepth 20000
set_option linter.unusedSimpArgs false
set_option linter.unusedVariables false
set_option maxHeartbeats 4000000
set_option linter.unusedVariables false
namespace Po
theorem sM_len (L : List S) : (sM L).length = L.length := by unfold sM; rw [List.length_map]
theorem sM_get {L : List S} {i : Nat} {t : S} (h : L[i]? = some t) : (sM L)[i]? = some (t.key, .agg #[]) := by unfold sM; rw [List.getElem?_map, h]; rfl
/-- How many have not come yet. -/
def left (n : Nat) (seen : Array Nat) : Nat := ((List.range n).filter fun i => !seen.contains i).length
theorem left_push {n i : Nat} {seen : Array Nat} (h : i < n) (hs : seen.contains i = false) : left n (seen.push i) < left n seen := by
  unfold left
  have e : ∀ j, (seen.push i).contains j = (seen.contains j || decide (j = i)) := fun j => by
    rw [Bool.eq_iff_iff]
    simp [Array.contains_iff_mem, Array.mem_push]
  have hsub : ((List.range n).filter fun j => !(seen.push i).contains j) = ((List.range n).filter fun j => !seen.contains j).filter fun j => !decide (j = i) := by
    rw [List.filter_filter]
    apply List.filter_congr
    intro j _
    rw [e]
    cases seen.contains j <;> simp
  rw [hsub]
  have hmem : i ∈ (List.range n).filter fun j => !seen.contains j := List.mem_filter.2 ⟨List.mem_range.2 h, by rw [hs]; rfl⟩
  generalize (List.range n).filter (fun j => !seen.contains j) = l at *
  clear hsub e
  induction l with
  | nil => cases hmem
  | cons a l ih =>
    rw [List.filter_cons]
    by_cases ha : a = i
    · subst ha
      simp only [decide_true, Bool.not_true, Bool.false_eq_true, if_false]
      have := List.length_filter_le (fun j => !decide (j = a)) l
      rw [List.length_cons]
      omega
    · rw [if_pos (by simp [ha])]
      have := ih ((List.mem_cons.1 hmem).resolve_left fun e => ha e.symm)
      simp only [List.length_cons]
      omega
/-- Those that have come. -/
def come (N : List S) (seen : Array Nat) (t : S) : Prop := ∃ i ∈ seen, N[i]? = some t
theorem come_push {N : List S} {seen : Array Nat} {i : Nat} {s t : S} (h : N[i]? = some s) : come N (seen.push i) t ↔ come N seen t ∨ t = s := by
  unfold come
  constructor
  · rintro ⟨j, hj, ht⟩
    rcases Array.mem_push.1 hj with hj | rfl
    · exact .inl ⟨j, hj, ht⟩
    · rw [h] at ht; injection ht with ht; exact .inr ht.symm
  · rintro (⟨j, hj, ht⟩ | rfl)
    · exact ⟨j, Array.mem_push.2 (.inl hj), ht⟩
    · exact ⟨i, Array.mem_push.2 (.inr rfl), h⟩
theorem come_all {N : List S} {seen : Array Nat} (h : ∀ i, i < N.length → seen.contains i = true) {t : S} : come N seen t ↔ t ∈ N := by
  unfold come
  constructor
  · rintro ⟨i, _, ht⟩; exact List.mem_of_getElem? ht
  · intro ht
    obtain ⟨i, hi, rfl⟩ := List.getElem_of_mem ht
    exact ⟨i, Array.contains_iff_mem.1 (h i hi), List.getElem?_eq_getElem hi⟩
theorem come_none {N : List S} {t : S} : ¬ come N #[] t := fun ⟨i, hi, _⟩ => by simp at hi
end Po
section
variable {t : TypeId} {m : List Blk} {K : AV → List Blk → Prop} {b c j : Nat} {N : List Po.S} {seen : Array Nat}
theorem ptr_den (c : Nat) : (AV.raw (Value.pointer (some ⟨c, 0, none⟩))).den = .pointer (some ⟨c, 0, none⟩) := by rw [AV.den]
theorem sent_range (hu : Tryz.prog.underlying t = some (.map 63 71)) (hb : MapIn m b (Po.sM N)) (hK : ∀ c, appK m (itB c b N.length #[]) (K (.raw (.pointer (some ⟨c, 0, none⟩))))) :
    NMap Tryz.prog (Instr.range t (AV.raw (Value.map (some b))).den) m K := by
  rw [show (AV.raw (Value.map (some b))).den = .map (some b) by rw [AV.den]]
  refine NMap.range hu hb fun c => ?_
  rw [Po.sM_len]
  exact hK c
theorem sent_next (hj : m[j]? = some (itB c b N.length seen)) (hb : MapIn m b (Po.sM N)) (h0 : (∀ i, i < N.length → seen.contains i = true) → K (.tup [.bool false]) m)
    (h1 : ∀ (i : Nat) (t : Po.S), N[i]? = some t → seen.contains i = false → setBlkK m j (itB c b N.length (seen.push i)) (K (.tup [.bool true, .agg t.av, .agg []]))) :
    NMap Tryz.prog (Instr.next (AV.raw (Value.pointer (some ⟨c, 0, none⟩))).den false 0) m K := by
  rw [ptr_den]
  have hj' : m[j]? = some (itB c b (Po.sM N).length seen) := by rw [Po.sM_len]; exact hj
  refine NMap.next hj' hb (fun h => h0 fun i hi => h i (by rw [Po.sM_len]; exact hi)) fun i k v hi hs => ?_
  have hlt : i < N.length := by have := (List.getElem?_eq_some_iff.1 hi).1; rw [Po.sM_len] at this; exact this
  have hN : N[i]? = some N[i] := List.getElem?_eq_getElem hlt
  rw [Po.sM_get hN] at hi
  injection hi with hi
  injection hi with hk hv
  subst hk hv
  refine ⟨.agg N[i].av, .agg [], rfl, rfl, ?_⟩
  rw [Po.sM_len]
  exact h1 i _ hN hs
theorem sent_now {i : Nat} {s : Po.S} (hj : m[j]? = some (itB c b N.length (seen.push i))) (hb : MapIn m b (Po.sM N)) (hi : N[i]? = some s) (hK : K (.tup [.agg s.av, .agg []]) m) :
    NMap Tryz.prog (Instr.entry (AV.raw (Value.pointer (some ⟨c, 0, none⟩))).den) m K := by
  rw [ptr_den]
  have hj' : m[j]? = some (itB c b (Po.sM N).length (seen.push i)) := by rw [Po.sM_len]; exact hj
  exact NMap.now hj' hb (Po.sM_get hi) (x := .agg s.av) (y := .agg []) rfl rfl hK
end
theorem copy27_c (b b1 : Nat) (L N : List Po.S) (hL : L.Nodup) :
    NCall Tryz.prog 63 [.raw (.map (some b)), .raw (.map (some b1))] [mapB b (Po.sM L), mapB b1 (Po.sM N)] fun r m => ∃ L' : List Po.S, L'.Nodup ∧ (∀ t, t ∈ L' ↔ t ∈ L ∨ t ∈ N) ∧ r = .tup [] ∧ m = [mapB b (Po.sM L'), mapB b1 (Po.sM N)] := by
  refine NCall.fits (K := fun r m => ∃ L' : List Po.S, L'.Nodup ∧ (∀ t, t ∈ L' ↔ t ∈ L ∨ t ∈ N) ∧ r = .tup [] ∧ MemFits m [mapB b (Po.sM L'), mapB b1 (Po.sM N)]) ?_ fun r m' ⟨L', h1, h2, h3, h4⟩ => ⟨r, _, rfl, h4, L', h1, h2, h3, rfl⟩
  have hu : Tryz.prog.underlying 65 = some (.map 63 71) := by kernel_rfl
  refine ncall_of Tryz.func63 rfl (by decide) ?_
  repeat' first|((try intro K hK);((with_reducible refine gMap ?_); refine sent_range (N := N) hu (MapIn.own (j := 1) rfl) fun c => ?_; conv=>whnf))|(refine sxZ ?_;try clear hK K)|refine sxW ?_ ?_<;>intro _|(intro K hK _;(conv=>whnf))|(intro _;(conv=>whnf))
  refine st_auto (α := Array Nat × List Po.S) (fun (seen, L') => L'.Nodup ∧ ∀ t, t ∈ L' ↔ t ∈ L ∨ Po.come N seen t) (fun (seen, L') => [.keep, .keep, .keep, .keep, .drop, .drop, .keep, .keep, .drop, .drop, .drop, .drop, .drop, .drop, .drop, .drop]) (fun (seen, L') => [.set (mapB b (Po.sM L')), .keep, .set (itB c b1 N.length seen)]) (fun (seen, L') => Po.left N.length seen) (#[], L) ⟨hL, fun t => ⟨.inl, fun h => h.elim id fun h => absurd h Po.come_none⟩⟩ ?_ (MemFits.eq rfl) ?_
  · exact fitsGo
  (intro ⟨seen, L'⟩ ⟨hn, hm⟩; intro K hK; (conv=>whnf); refine hK _ _ ?_; clear hK K)
  dsimp only
  repeat' first|((try intro K hK);((with_reducible refine gMap ?_); refine sent_next (N := N) (j := 2) rfl (MapIn.own (j := 1) rfl) ?_ ?_ <;> first | (intro i9 t9 hi9 hs9; conv=>whnf) | (intro hall9; conv=>whnf)))|((try intro K hK);((with_reducible refine gMap ?_); refine sent_now (N := N) (j := 2) rfl (MapIn.own (j := 1) rfl) hi9 ?_; conv=>whnf))|((try intro K hK);((with_reducible refine gMap ?_); refine sent_upd (j := 0) (s := t9) hu rfl rfl rfl ?_; conv=>whnf))|(refine sxZ ?_;try clear hK K)|refine sxW ?_ ?_<;>intro _|(intro K hK _;(conv=>whnf))|(intro _;(conv=>whnf))
  · exact ⟨L', hn, fun t => by rw [hm, Po.come_all hall9], rfl, MemFits.pre 2 rfl⟩
  · refine st_round (seen.push i9, Po.add L' t9) ⟨Po.add_nodup hn t9, fun t => by rw [Po.mem_add, hm, Po.come_push hi9, or_assoc]⟩ (Po.left_push (List.getElem?_eq_some_iff.1 hi9).1 hs9) ?_ (MemFits.pre 3 rfl)
    exact fitsGo
end Go.Proofs.YtngodakgbldlpaaGreatDoor
namespace Go.Proofs.YtngodakgbldlpaaGreatDoor
open Go.Sx
set_option maxRecDepth 20000
set_option linter.unusedVariables false
namespace Po
def okPre (N : List S) (seen : Array Nat) (pre : List S) : Prop := seen.toList.Nodup ∧ (∀ i ∈ seen.toList, i < N.length) ∧ pre = seen.toList.map fun i => N.getD i default
theorem okPre_start (N : List S) : okPre N #[] [] := ⟨List.nodup_nil, fun i h => by simp at h, rfl⟩
theorem okPre_push {N : List S} {seen : Array Nat} {pre : List S} {i : Nat} {t : S} (h : okPre N seen pre) (hi : N[i]? = some t) (hs : seen.contains i = false) : okPre N (seen.push i) (pre ++ [t]) := by
  obtain ⟨h1, h2, h3⟩ := h
  have hlt := (List.getElem?_eq_some_iff.1 hi).1
  have hno : i ∉ seen.toList := fun hm => by
    have := Array.contains_iff_mem.2 (Array.mem_toList_iff.1 hm)
    rw [hs] at this
    cases this
  refine ⟨?_, fun j hj => ?_, ?_⟩
  · rw [Array.toList_push, List.nodup_append]
    exact ⟨h1, by simp, fun a ha b hb e => by rw [List.mem_singleton.1 hb] at e; exact hno (e ▸ ha)⟩
  · rw [Array.toList_push, List.mem_append] at hj
    rcases hj with hj | hj
    · exact h2 j hj
    · rw [List.mem_singleton.1 hj]; exact hlt
  · rw [Array.toList_push, List.map_append, h3]
    simp [List.getD_eq_getElem?_getD, hi]
theorem nodup_lenN : ∀ (a b : List Nat), a.Nodup → (∀ x ∈ a, x ∈ b) → a.length ≤ b.length
  | [], _, _, _ => Nat.zero_le _
  | x :: a, b, hn, hs => by
    rw [List.nodup_cons] at hn
    have hx : x ∈ b := hs x (by simp)
    have := nodup_lenN a (b.erase x) hn.2 fun y hy => (List.mem_erase_of_ne (fun e => hn.1 (by rw [← e]; exact hy))).2 (hs y (by simp [hy]))
    rw [List.length_erase_of_mem hx] at this
    have := List.length_pos_of_mem hx
    rw [List.length_cons]
    omega
theorem okPre_lt {N : List S} {seen : Array Nat} {pre : List S} {i : Nat} {t : S} (h : okPre N seen pre) (hi : N[i]? = some t) (hs : seen.contains i = false) : pre.length < N.length := by
  obtain ⟨h1, h2, h3⟩ := okPre_push h hi hs
  have := nodup_lenN _ (List.range N.length) h1 fun j hj => List.mem_range.2 (h2 j hj)
  rw [List.length_range] at this
  have e := congrArg List.length h3
  rw [List.length_map, List.length_append, List.length_singleton] at e
  omega
theorem okPre_end {N : List S} {seen : Array Nat} {pre : List S} (h : okPre N seen pre) (hall : ∀ i, i < N.length → seen.contains i = true) : pre.Perm N := by
  obtain ⟨h1, h2, h3⟩ := h
  have hp : seen.toList.Perm (List.range N.length) := by
    rw [List.perm_iff_count]
    intro i
    have hr : (List.range N.length).Nodup := List.nodup_range
    rw [h1.count, hr.count]
    have e : i ∈ seen.toList ↔ i ∈ List.range N.length := ⟨fun hm => List.mem_range.2 (h2 i hm), fun hm => Array.mem_toList_iff.2 (Array.contains_iff_mem.1 (hall i (List.mem_range.1 hm)))⟩
    simp only [e]
  have hm : (List.range N.length).map (fun i => N.getD i default) = N := by
    apply List.ext_getElem?
    intro i
    rw [List.getElem?_map]
    by_cases hi : i < N.length
    · rw [List.getElem?_range hi, List.getElem?_eq_getElem hi]
      simp [List.getD_eq_getElem?_getD, hi]
    · rw [List.getElem?_eq_none (by rw [List.length_range]; omega), List.getElem?_eq_none (by omega)]; rfl
  rw [h3]
  exact (hp.map _).trans (by rw [hm])
/-- A list of packets, sorted, each once: the one that there is. -/
theorem sorted_eq {N L R : List S} (hp : L.Perm N) (hn : N.Nodup) (hs : L.Pairwise (fun x y => ¬ ahead y x)) (hR : Rising R) (hm : ∀ t, t ∈ N ↔ t ∈ R) : L = R := by
  refine rising_eq ?_ hR fun t => (hp.mem_iff).trans (hm t)
  have hnd : L.Nodup := hp.nodup_iff.2 hn
  refine (hs.and hnd).imp fun {x y} h => Classical.byContradiction fun hna => h.2 (ahead_or hna h.1)
end Po
end Go.Proofs.YtngodakgbldlpaaGreatDoor
