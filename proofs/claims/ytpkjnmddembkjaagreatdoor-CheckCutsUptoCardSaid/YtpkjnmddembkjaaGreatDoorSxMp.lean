/-
  Maps: what their operations do to maps of one's own.
-/
import Derived.Test.YtpkjnmddembkjaaGreatDoorSxC
import Derived.Maps.RangeRun
namespace Go.Sx
open Go.RowKit
open Go.ChangeMaps (setBlock)
set_option linter.unusedVariables false
set_option maxRecDepth 20000
/-- A map, as its keys and values lie in it. -/
def mapL (L : List (Value × Value)) : List MapEntry := L.mapIdx fun i p => ⟨p.1, p.2, i⟩
def mapObj (L : List (Value × Value)) : Obj := .map (mapL L).toArray L.length
def mapB (b : Nat) (L : List (Value × Value)) : Blk := ⟨⟨b, 0, none⟩, [], .obj (mapObj L)⟩
/-- What goes through a map. -/
def itB (c b n : Nat) (seen : Array Nat) : Blk := ⟨⟨c, 0, none⟩, [], .obj (.mapIter (some b) n seen n)⟩
theorem mapL_get (L : List (Value × Value)) (i : Nat) : (mapL L)[i]? = (L[i]?).map fun p => ⟨p.1, p.2, i⟩ := by simp [mapL]
section
variable {P : Program}
theorem setBlock_heap {w : World} {b k : Nat} {o o' : Obj} (h : w.heap[b]? = some o) : (setBlock w b o').heap[k]? = if k = b then some o' else w.heap[k]? := by
  have hlt := (Array.getElem?_eq_some_iff.1 h).1
  simp only [setBlock]
  rw [Array.getElem?_setIfInBounds]
  by_cases e : b = k
  · subst e; simp [hlt]
  · rw [if_neg e, if_neg (fun e' => e e'.symm)]
theorem MemOk.obj {m : List Blk} {w : World} (hm : MemOk m w) {j b : Nat} {o : Obj} (hj : m[j]? = some ⟨⟨b, 0, none⟩, [], .obj o⟩) : w.heap[b]? = some o :=
  (hm.holds _ (List.mem_of_getElem? hj)).2.2.2
theorem put_mem {m : List Blk} {w w1 : World} {j b : Nat} {o : Obj} (o' : Obj) (hm : MemOk m w) (hj : m[j]? = some ⟨⟨b, 0, none⟩, [], .obj o⟩) (hw1 : w1 = w ∨ w1 = w.drew) :
    MemOk (m.set j ⟨⟨b, 0, none⟩, [], .obj o'⟩) (setBlock w1 b o') ∧ Fr (wrs m) w (setBlock w1 b o') ∧ Fresh (own m) w (m.set j ⟨⟨b, 0, none⟩, [], .obj o'⟩) := by
  have hb := hm.obj hj
  have hh : w1.heap = w.heap := by rcases hw1 with rfl | rfl <;> rfl
  have hb1 : w1.heap[b]? = some o := by rw [hh]; exact hb
  have hmem := List.mem_of_getElem? hj
  have hsz : (setBlock w1 b o').heap.size = w.heap.size := by simp [setBlock, hh]
  have hoth : ∀ k, k ≠ b → (setBlock w1 b o').heap[k]? = w.heap[k]? := fun k hk => by rw [setBlock_heap hb1, if_neg hk, hh]
  refine ⟨?_, ?_, ?_⟩
  · refine hm.set (Nat.le_of_eq hsz.symm) hj rfl (fun c hc hlt => hoth c fun e => hc (by rw [e]; rfl)) ⟨rfl, rfl, rfl, ?_⟩ (fun F e => by cases e) (.inr (.inl rfl))
    rw [setBlock_heap hb1, if_pos rfl]
  · refine ⟨?_, ?_, ?_, Nat.le_of_eq hsz.symm, fun k hk hS => hoth k fun e => hS ⟨_, hmem, rfl, by rw [e]; rfl⟩⟩
    all_goals rcases hw1 with rfl | rfl <;> rfl
  · exact Fresh.set (Fresh.self _ _) (fun F e => by cases e) fun c hc => .inl ⟨_, hmem, rfl, hc⟩
theorem NMap.put {s : Sem Value} {m : List Blk} {K : AV → List Blk → Prop} {j b : Nat} {o o' : Obj} {r : AV} (hj : m[j]? = some ⟨⟨b, 0, none⟩, [], .obj o⟩)
    (h : ∀ w, w.heap[b]? = some o → MemOk m w → ∃ w1, (w1 = w ∨ w1 = w.drew) ∧ s.run P w = .ok r.den (setBlock w1 b o')) (hK : K r (m.set j ⟨⟨b, 0, none⟩, [], .obj o'⟩)) : NMap P s m K := by
  rw [NMap_iff]
  intro w hm
  obtain ⟨w1, hw1, hrun⟩ := h w (hm.obj hj) hm
  obtain ⟨h1, h2, h3⟩ := put_mem o' hm hj hw1
  exact ⟨r, _, _, hrun, hK, h1, h2, h3⟩
/-- An operation that only reads. -/
theorem NMap.read {s : Sem Value} {m : List Blk} {K : AV → List Blk → Prop} {r : AV} (h : ∀ w, MemOk m w → s.run P w = .ok r.den w) (hK : K r m) : NMap P s m K := by
  rw [NMap_iff]
  exact fun w hm => ⟨r, m, w, h w hm, hK, hm, Fr.refl _ _, Fresh.self _ _⟩
/-- An operation that makes an object. -/
theorem NMap.new {s : Sem Value} {m : List Blk} {K : AV → List Blk → Prop} {o : Obj} {r : Nat → AV} (h : ∀ w, MemOk m w → s.run P w = .ok (r w.heap.size).den (w.alloc o)) (hK : ∀ b, K (r b) (m ++ [⟨⟨b, 0, none⟩, [], .obj o⟩])) : NMap P s m K := by
  rw [NMap_iff]
  intro w hm
  refine ⟨_, _, _, h w hm, hK _, ?_, Fr.alloc _ _ _, ?_⟩
  · refine hm.push (by simp) (fun k hk b hb => Below.heap_alloc _ _ _ ((hm.holds k hk).lt hb)) ?_ (fun b hb => ?_)
    · exact ⟨rfl, rfl, rfl, heap_alloc_new w _⟩
    · simp [Blk.foot, Blk.bn] at hb; omega
  · refine (Fresh.self _ _).push (fun F => by simp) fun b hb => ?_
    simp [Blk.bn] at hb
    omega
/-! ### Keys -/
/-- A type's keys: they can be told apart. -/
structure KeyT (P : Program) (kt : TypeId) (ok : Value → Prop) : Prop where
  check : ∀ e x w, ok x → (Instr.checkKey e 10000 kt x).run P w = .ok () w
  under : ∃ td, P.underlying kt = some td ∧ ∀ x y, ok x → ok y → Instr.sameNow td x y = none ∨ (x = y ∧ Instr.sameNow td x y = some true) ∨ (x ≠ y ∧ Instr.sameNow td x y = some false)
  eq : ∀ x y w, ok x → ok y → (x = y ∧ (Op.equal kt x y).run P w = .ok true w) ∨ (x ≠ y ∧ (Op.equal kt x y).run P w = .ok false w)
  bits : ∀ x, ok x → Instr.sameBits 10000 x x = true
/-- Where a key lies first. -/
def FirstIs (L : List (Value × Value)) (k : Value) : Option (Nat × Value) → Prop
  | none => ∀ q ∈ L, q.1 ≠ k
  | some (i, v) => L[i]? = some (k, v) ∧ ∀ j q, j < i → L[j]? = some q → q.1 ≠ k
def FirstE (L : List MapEntry) (k : Value) : Option (Nat × Value) → Prop
  | none => ∀ q ∈ L, q.key ≠ k
  | some (i, v) => (∃ q, L[i]? = some q ∧ q.key = k ∧ q.val = v) ∧ ∀ (j : Nat) (q : MapEntry), j < i → L[j]? = some q → q.key ≠ k
theorem FirstIs.e {L : List (Value × Value)} {k : Value} {r : Option (Nat × Value)} (h : FirstIs L k r) : FirstE (mapL L) k r := by
  cases r with
  | none =>
    intro q hq
    obtain ⟨i, hi⟩ := List.getElem?_of_mem hq
    rw [mapL_get] at hi
    cases hL : L[i]? with
    | none => rw [hL] at hi; cases hi
    | some p =>
      rw [hL] at hi
      injection hi with hi
      subst hi
      exact h p (List.mem_of_getElem? hL)
  | some x =>
    obtain ⟨i, v⟩ := x
    refine ⟨⟨⟨k, v, i⟩, by rw [mapL_get, h.1]; rfl, rfl, rfl⟩, fun j q hj hq => ?_⟩
    rw [mapL_get] at hq
    cases hL : L[j]? with
    | none => rw [hL] at hq; cases hq
    | some p =>
      rw [hL] at hq
      injection hq with hq
      subst hq
      exact h.2 j p hj hL
theorem FirstE.tail {e : MapEntry} {L : List MapEntry} {k : Value} (hne : e.key ≠ k) {r : Option (Nat × Value)} (h : FirstE (e :: L) k r) : ∃ r', FirstE L k r' ∧ r = r'.map fun p => (p.1 + 1, p.2) := by
  cases r with
  | none => exact ⟨none, fun q hq => h q (List.mem_cons_of_mem _ hq), rfl⟩
  | some x =>
    obtain ⟨i, v⟩ := x
    obtain ⟨⟨q, h1, h2, h3⟩, h4⟩ := h
    cases i with
    | zero => simp at h1; subst h1; exact absurd h2 hne
    | succ i => exact ⟨some (i, v), ⟨⟨q, by simpa using h1, h2, h3⟩, fun j p hj hp => h4 (j + 1) p (by omega) (by simpa using hp)⟩, rfl⟩
theorem FirstE.head {e : MapEntry} {L : List MapEntry} {r : Option (Nat × Value)} (h : FirstE (e :: L) e.key r) : r = some (0, e.val) := by
  cases r with
  | none => exact absurd rfl (h e (by simp))
  | some x =>
    obtain ⟨i, v⟩ := x
    obtain ⟨⟨q, h1, h2, h3⟩, h4⟩ := h
    cases i with
    | zero => simp at h1; subst h1; rw [h3]
    | succ i => exact absurd rfl (h4 0 e (by omega) rfl)
/-! ### Operations -/
theorem NMap.make {t : TypeId} {m : List Blk} {K : AV → List Blk → Prop} (h : ∀ b, appK m (mapB b []) (K (.raw (.map (some b))))) : NMap P (Instr.makeMap t none) m K :=
  NMap.new (o := mapObj []) (r := fun b => .raw (.map (some b))) (fun w _ => rfl) fun b => appK_spec (h b)
theorem run_getObj {w : World} {b : Nat} {es : Array MapEntry} {c : Nat} (h : w.heap[b]? = some (.map es c)) : (getObj b).run P w = .ok (.map es c) w := by simp [getObj, Sem.run, h]
/-- Keys that are whole numbers. -/
theorem KeyT.int {kt : TypeId} (hu : P.underlying kt = some (.int .i64)) : KeyT P kt fun v => ∃ n : Int, v = .int .i64 n where
  check e x w := by
    rintro ⟨n, rfl⟩
    rw [show (10000 : Nat) = 9999 + 1 from rfl, Instr.checkKey, Sem.run_bind, run_underlying hu]
    rfl
  under := ⟨_, hu, fun x y hx hy => by
    obtain ⟨a, rfl⟩ := hx
    obtain ⟨b, rfl⟩ := hy
    by_cases e : a = b
    · subst e; exact .inr (.inl ⟨rfl, by simp [Instr.sameNow]⟩)
    · exact .inr (.inr ⟨fun h => e (by injection h), by simp [Instr.sameNow, e]⟩)⟩
  eq x y w := by
    rintro ⟨a, rfl⟩ ⟨b, rfl⟩
    have h1 : (Op.equal kt (.int .i64 a) (.int .i64 b)).run P w = .ok (a == b) w := run_equalIn_int w 9999 kt _ _ _ _ hu
    by_cases e : a = b
    · subst e; exact .inl ⟨rfl, by simpa using h1⟩
    · exact .inr ⟨fun h => e (by injection h), by rw [h1, show (a == b) = false by simp [e]]⟩
  bits x := by
    rintro ⟨n, rfl⟩
    simp [Instr.sameBits]
/-- A map lies in block b, be it one's own or read alone. -/
def MapIn (m : List Blk) (b : Nat) (L : List (Value × Value)) : Prop := ∀ w, MemOk m w → w.heap[b]? = some (mapObj L)
theorem MapIn.own {m : List Blk} {j b : Nat} {L : List (Value × Value)} (hj : m[j]? = some (mapB b L)) : MapIn m b L := fun w hm => hm.obj hj
theorem MapIn.heap {m : List Blk} {j b : Nat} {F : Heap} {L : List (Value × Value)} (hj : m[j]? = some (hpB F)) (h : F.o b (mapObj L)) : MapIn m b L := fun w hm => (hm.holds _ (List.mem_of_getElem? hj)).2.2 b _ h
theorem NMap.range {t kt et : TypeId} {m : List Blk} {K : AV → List Blk → Prop} {b : Nat} {L : List (Value × Value)} (hu : P.underlying t = some (.map kt et)) (hb : MapIn m b L) (hK : ∀ c, appK m (itB c b L.length #[]) (K (.raw (.pointer (some ⟨c, 0, none⟩))))) : NMap P (Instr.range t (.map (some b))) m K := by
  have hK := fun c => appK_spec (hK c)
  refine NMap.new (o := .mapIter (some b) L.length #[] L.length) (r := fun c => .raw (.pointer (some ⟨c, 0, none⟩))) (fun w hm => ?_) hK
  have hb := hb w hm
  unfold mapObj at hb
  simp only [Instr.range, Sem.run_bind, run_underlying hu, Result.andThen_ok, run_getObj hb, Sem.run_pure]
  rfl
/-- One round more, or none. -/
theorem NMap.next {m : List Blk} {K : AV → List Blk → Prop} {j b c : Nat} {seen : Array Nat} {L : List (Value × Value)} (hj : m[j]? = some (itB c b L.length seen)) (hb : MapIn m b L)
    (h0 : (∀ i, i < L.length → seen.contains i = true) → K (.tup [.bool false]) m)
    (h1 : ∀ i k v, L[i]? = some (k, v) → seen.contains i = false → ∃ x y : AV, x.den = k ∧ y.den = v ∧ setBlkK m j (itB c b L.length (seen.push i)) (K (.tup [.bool true, x, y]))) :
    NMap P (Instr.next (.pointer (some ⟨c, 0, none⟩)) false 0) m K := by
  rw [NMap_iff]
  intro w hm
  have hc := hm.obj hj
  have hmb := hb w hm
  have hborn : ∀ x ∈ (mapL L).toArray.toList, x.born < L.length := fun x hx => by
    obtain ⟨i, hi⟩ := List.getElem?_of_mem hx
    rw [mapL_get] at hi
    cases hL : L[i]? with
    | none => rw [hL] at hi; cases hi
    | some p =>
      rw [hL] at hi
      injection hi with hi
      subst hi
      exact (List.getElem?_eq_some_iff.1 hL).1
  rcases run_next_at (P := P) w 0 c b L.length L.length seen (mapL L).toArray L.length hc hmb hborn (Nat.le_refl _) with ⟨h2, h3⟩ | ⟨e, he, w1, hw1, h3⟩
  · refine ⟨.tup [.bool false], m, w, h3, h0 fun i hi => ?_, hm, Fr.refl _ _, Fresh.self _ _⟩
    cases hs : seen.contains i with
    | true => rfl
    | false =>
      exfalso
      have hg : L[i]? = some L[i] := List.getElem?_eq_getElem hi
      have : (⟨L[i].1, L[i].2, i⟩ : MapEntry) ∈ leftOf (mapL L).toArray seen := by
        unfold leftOf
        rw [Array.mem_filter]
        exact ⟨by rw [List.mem_toArray]; exact List.mem_of_getElem? (by rw [mapL_get, hg]; rfl), by simp only [hs]; rfl⟩
      rw [Array.eq_empty_of_size_eq_zero h2] at this
      simp at this
  · unfold leftOf at he
    rw [Array.mem_toList_iff, Array.mem_filter, List.mem_toArray] at he
    obtain ⟨he1, he2⟩ := he
    obtain ⟨i, hi⟩ := List.getElem?_of_mem he1
    rw [mapL_get] at hi
    cases hL : L[i]? with
    | none => rw [hL] at hi; cases hi
    | some p =>
      rw [hL] at hi
      injection hi with hi
      subst hi
      obtain ⟨x, y, hx, hy, hK⟩ := h1 i p.1 p.2 hL (by simpa using he2)
      have hK := (setBlkK_spec hK).2
      obtain ⟨h4, h5, h6⟩ := put_mem (.mapIter (some b) L.length (seen.push i) L.length) hm hj hw1
      refine ⟨.tup [.bool true, x, y], _, _, ?_, hK, h4, h5, h6⟩
      rw [h3]
      simp [AV.den, denL, hx, hy]
def addO (F : Heap) (b : Nat) (o : Obj) : Heap := ⟨F.c, fun b' o' => F.o b' o' ∨ (b' = b ∧ o' = o)⟩
theorem addO.old {F : Heap} {b : Nat} {o : Obj} : F.le (addO F b o) := ⟨fun _ _ h => h, fun _ _ h => .inl h⟩
end
end Go.Sx

