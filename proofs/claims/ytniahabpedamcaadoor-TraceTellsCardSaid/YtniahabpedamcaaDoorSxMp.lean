/-
  Maps: what their operations do to maps of one's own.
-/
import Derived.Test.YtniahabpedamcaaDoorSxC
import Derived.Maps.RangeRun
namespace Go.Sx
open Go.RowKit
open Go.ChangeMaps (setBlock)
set_option linter.unusedVariables false
set_option maxRecDepth 20000
/-- A map, as its keys and values lie in it. -/
def mapL (L : List (Value × Value)) : List MapEntry := L.mapIdx fun i p => ⟨p.1, p.2, i⟩
def mapObj (L : List (Value × Value)) : Obj := .map (mapL L).toArray L.length
def mapB (b : Nat) (L : List (Value × Value)) : Blk := ⟨⟨b, 0, none⟩, [], .obj (mapObj L)⟩
theorem mapL_get (L : List (Value × Value)) (i : Nat) : (mapL L)[i]? = (L[i]?).map fun p => ⟨p.1, p.2, i⟩ := by simp [mapL]
section
variable {P : Program}
theorem setBlock_heap {w : World} {b k : Nat} {o o' : Obj} (h : w.heap[b]? = some o) : (setBlock w b o').heap[k]? = if k = b then some o' else w.heap[k]? := by
  have hlt := (Array.getElem?_eq_some_iff.1 h).1
  simp only [setBlock]
  rw [Array.getElem?_setIfInBounds]
  by_cases e : b = k
  · subst e; simp [hlt]
  · rw [if_neg e, if_neg (fun e' => e e'.symm)]
theorem MemOk.obj {m : List Blk} {w : World} (hm : MemOk m w) {j b : Nat} {o : Obj} (hj : m[j]? = some ⟨⟨b, 0, none⟩, [], .obj o⟩) : w.heap[b]? = some o :=
  (hm.holds _ (List.mem_of_getElem? hj)).2.2.2
theorem put_mem {m : List Blk} {w w1 : World} {j b : Nat} {o : Obj} (o' : Obj) (hm : MemOk m w) (hj : m[j]? = some ⟨⟨b, 0, none⟩, [], .obj o⟩) (hw1 : w1 = w ∨ w1 = w.drew) :
    MemOk (m.set j ⟨⟨b, 0, none⟩, [], .obj o'⟩) (setBlock w1 b o') ∧ Fr (wrs m) w (setBlock w1 b o') ∧ Fresh (own m) w (m.set j ⟨⟨b, 0, none⟩, [], .obj o'⟩) := by
  have hb := hm.obj hj
  have hh : w1.heap = w.heap := by rcases hw1 with rfl | rfl <;> rfl
  have hb1 : w1.heap[b]? = some o := by rw [hh]; exact hb
  have hmem := List.mem_of_getElem? hj
  have hsz : (setBlock w1 b o').heap.size = w.heap.size := by simp [setBlock, hh]
  have hoth : ∀ k, k ≠ b → (setBlock w1 b o').heap[k]? = w.heap[k]? := fun k hk => by rw [setBlock_heap hb1, if_neg hk, hh]
  refine ⟨?_, ?_, ?_⟩
  · refine hm.set (Nat.le_of_eq hsz.symm) hj rfl (fun c hc hlt => hoth c fun e => hc (by rw [e]; rfl)) ⟨rfl, rfl, rfl, ?_⟩ rfl (.inr (.inl rfl))
    rw [setBlock_heap hb1, if_pos rfl]
  · refine ⟨?_, ?_, ?_, Nat.le_of_eq hsz.symm, fun k hk hS => hoth k fun e => hS ⟨_, hmem, rfl, by rw [e]; rfl⟩⟩
    all_goals rcases hw1 with rfl | rfl <;> rfl
  · exact Fresh.set (Fresh.self _ _) rfl fun c hc => .inl ⟨_, hmem, rfl, hc⟩
theorem NMap.put {s : Sem Value} {m : List Blk} {K : AV → List Blk → Prop} {j b : Nat} {o o' : Obj} {r : AV} (hj : m[j]? = some ⟨⟨b, 0, none⟩, [], .obj o⟩)
    (h : ∀ w, w.heap[b]? = some o → MemOk m w → ∃ w1, (w1 = w ∨ w1 = w.drew) ∧ s.run P w = .ok r.den (setBlock w1 b o')) (hK : K r (m.set j ⟨⟨b, 0, none⟩, [], .obj o'⟩)) : NMap P s m K := by
  rw [NMap_iff]
  intro w hm
  obtain ⟨w1, hw1, hrun⟩ := h w (hm.obj hj) hm
  obtain ⟨h1, h2, h3⟩ := put_mem o' hm hj hw1
  exact ⟨r, _, _, hrun, hK, h1, h2, h3⟩
/-- An operation that only reads. -/
theorem NMap.read {s : Sem Value} {m : List Blk} {K : AV → List Blk → Prop} {r : AV} (h : ∀ w, MemOk m w → s.run P w = .ok r.den w) (hK : K r m) : NMap P s m K := by
  rw [NMap_iff]
  exact fun w hm => ⟨r, m, w, h w hm, hK, hm, Fr.refl _ _, Fresh.self _ _⟩
/-- An operation that makes an object. -/
theorem NMap.new {s : Sem Value} {m : List Blk} {K : AV → List Blk → Prop} {o : Obj} {r : Nat → AV} (h : ∀ w, MemOk m w → s.run P w = .ok (r w.heap.size).den (w.alloc o)) (hK : ∀ b, K (r b) (m ++ [⟨⟨b, 0, none⟩, [], .obj o⟩])) : NMap P s m K := by
  rw [NMap_iff]
  intro w hm
  refine ⟨_, _, _, h w hm, hK _, ?_, Fr.alloc _ _ _, ?_⟩
  · refine hm.push (by simp) (fun k hk b hb => Below.heap_alloc _ _ _ ((hm.holds k hk).lt hb)) ?_ (fun b hb => ?_)
    · exact ⟨rfl, rfl, rfl, heap_alloc_new w _⟩
    · simp [Blk.foot, Blk.bn] at hb; omega
  · refine (Fresh.self _ _).push (rfl) fun b hb => ?_
    simp [Blk.bn] at hb
    omega
/-! ### Keys -/
/-- A type's keys: they can be told apart. -/
structure KeyT (P : Program) (kt : TypeId) (ok : Value → Prop) : Prop where
  check : ∀ e x w, ok x → (Instr.checkKey e 10000 kt x).run P w = .ok () w
  under : ∃ td, P.underlying kt = some td ∧ ∀ x y, ok x → ok y → Instr.sameNow td x y = none ∨ (x = y ∧ Instr.sameNow td x y = some true) ∨ (x ≠ y ∧ Instr.sameNow td x y = some false)
  eq : ∀ x y w, ok x → ok y → (x = y ∧ (Op.equal kt x y).run P w = .ok true w) ∨ (x ≠ y ∧ (Op.equal kt x y).run P w = .ok false w)
  bits : ∀ x, ok x → Instr.sameBits 10000 x x = true
/-- Where a key lies first. -/
def FirstIs (L : List (Value × Value)) (k : Value) : Option (Nat × Value) → Prop
  | none => ∀ q ∈ L, q.1 ≠ k
  | some (i, v) => L[i]? = some (k, v) ∧ ∀ j q, j < i → L[j]? = some q → q.1 ≠ k
def FirstE (L : List MapEntry) (k : Value) : Option (Nat × Value) → Prop
  | none => ∀ q ∈ L, q.key ≠ k
  | some (i, v) => (∃ q, L[i]? = some q ∧ q.key = k ∧ q.val = v) ∧ ∀ (j : Nat) (q : MapEntry), j < i → L[j]? = some q → q.key ≠ k
theorem FirstIs.e {L : List (Value × Value)} {k : Value} {r : Option (Nat × Value)} (h : FirstIs L k r) : FirstE (mapL L) k r := by
  cases r with
  | none =>
    intro q hq
    obtain ⟨i, hi⟩ := List.getElem?_of_mem hq
    rw [mapL_get] at hi
    cases hL : L[i]? with
    | none => rw [hL] at hi; cases hi
    | some p =>
      rw [hL] at hi
      injection hi with hi
      subst hi
      exact h p (List.mem_of_getElem? hL)
  | some x =>
    obtain ⟨i, v⟩ := x
    refine ⟨⟨⟨k, v, i⟩, by rw [mapL_get, h.1]; rfl, rfl, rfl⟩, fun j q hj hq => ?_⟩
    rw [mapL_get] at hq
    cases hL : L[j]? with
    | none => rw [hL] at hq; cases hq
    | some p =>
      rw [hL] at hq
      injection hq with hq
      subst hq
      exact h.2 j p hj hL
theorem FirstE.tail {e : MapEntry} {L : List MapEntry} {k : Value} (hne : e.key ≠ k) {r : Option (Nat × Value)} (h : FirstE (e :: L) k r) : ∃ r', FirstE L k r' ∧ r = r'.map fun p => (p.1 + 1, p.2) := by
  cases r with
  | none => exact ⟨none, fun q hq => h q (List.mem_cons_of_mem _ hq), rfl⟩
  | some x =>
    obtain ⟨i, v⟩ := x
    obtain ⟨⟨q, h1, h2, h3⟩, h4⟩ := h
    cases i with
    | zero => simp at h1; subst h1; exact absurd h2 hne
    | succ i => exact ⟨some (i, v), ⟨⟨q, by simpa using h1, h2, h3⟩, fun j p hj hp => h4 (j + 1) p (by omega) (by simpa using hp)⟩, rfl⟩
theorem FirstE.head {e : MapEntry} {L : List MapEntry} {r : Option (Nat × Value)} (h : FirstE (e :: L) e.key r) : r = some (0, e.val) := by
  cases r with
  | none => exact absurd rfl (h e (by simp))
  | some x =>
    obtain ⟨i, v⟩ := x
    obtain ⟨⟨q, h1, h2, h3⟩, h4⟩ := h
    cases i with
    | zero => simp at h1; subst h1; rw [h3]
    | succ i => exact absurd rfl (h4 0 e (by omega) rfl)
theorem findAsking_run {kt : TypeId} {ok : Value → Prop} (hK : KeyT P kt ok) {k : Value} (hk : ok k) (w : World) : ∀ (L : List MapEntry) (i : Nat) (r : Option (Nat × Value)), (∀ q ∈ L, ok q.key) → FirstE L k r →
    (Instr.findAsking kt k L i).run P w = .ok (r.map fun p => (p.1 + i, p.2)) w
  | [], i, r, _, h => by
    cases r with
    | none => rfl
    | some x => obtain ⟨⟨q, h1, _⟩, _⟩ := h; simp at h1
  | e :: L, i, r, hL, h => by
    unfold Instr.findAsking
    rw [Sem.run_bind]
    rcases hK.eq k e.key w hk (hL e (by simp)) with ⟨h1, h2⟩ | ⟨h1, h2⟩
    · subst h1
      rw [h2, h.head]
      simp
    · obtain ⟨r', h3, rfl⟩ := h.tail (Ne.symm h1)
      rw [h2]
      simp only [Result.andThen_ok, Bool.false_eq_true, if_false]
      rw [findAsking_run hK hk w L (i + 1) r' (fun q hq => hL q (List.mem_cons_of_mem _ hq)) h3]
      cases r' with
      | none => rfl
      | some p => simp only [Option.map_some]; rw [show p.1 + (i + 1) = p.1 + 1 + i by omega]
theorem findNow_run {td : TypeDesc} {ok : Value → Prop} (hT : ∀ x y, ok x → ok y → Instr.sameNow td x y = none ∨ (x = y ∧ Instr.sameNow td x y = some true) ∨ (x ≠ y ∧ Instr.sameNow td x y = some false)) {k : Value} (hk : ok k) : ∀ (L : List MapEntry) (i : Nat) (r : Option (Nat × Value)), (∀ q ∈ L, ok q.key) → FirstE L k r →
    Instr.findNow td k L i = none ∨ Instr.findNow td k L i = some (r.map fun p => (p.1 + i, p.2))
  | [], i, r, _, h => by
    cases r with
    | none => exact .inr rfl
    | some x => obtain ⟨⟨q, h1, _⟩, _⟩ := h; simp at h1
  | e :: L, i, r, hL, h => by
    unfold Instr.findNow
    rcases hT k e.key hk (hL e (by simp)) with h1 | ⟨h1, h2⟩ | ⟨h1, h2⟩
    · rw [h1]; exact .inl rfl
    · rw [h2]
      subst h1
      rw [h.head]
      exact .inr (by simp)
    · rw [h2]
      obtain ⟨r', h3, rfl⟩ := h.tail (Ne.symm h1)
      rcases findNow_run hT hk L (i + 1) r' (fun q hq => hL q (List.mem_cons_of_mem _ hq)) h3 with h4 | h4
      · exact .inl h4
      · refine .inr ?_
        simp only
        rw [h4]
        cases r' with
        | none => rfl
        | some p => simp only [Option.map_some]; rw [show p.1 + (i + 1) = p.1 + 1 + i by omega]
theorem findKey_run {kt : TypeId} {ok : Value → Prop} (hK : KeyT P kt ok) {L : List (Value × Value)} {k : Value} {r : Option (Nat × Value)} (hL : ∀ q ∈ L, ok q.1) (hk : ok k) (h : FirstIs L k r) (w : World) :
    (Instr.findKey kt k (mapL L)).run P w = .ok r w := by
  have hL' : ∀ q ∈ mapL L, ok q.key := fun q hq => by
    obtain ⟨i, hi⟩ := List.getElem?_of_mem hq
    rw [mapL_get] at hi
    cases hLi : L[i]? with
    | none => rw [hLi] at hi; cases hi
    | some p =>
      rw [hLi] at hi
      injection hi with hi
      subst hi
      exact hL p (List.mem_of_getElem? hLi)
  obtain ⟨td, hu, hT⟩ := hK.under
  have e : r.map (fun p => (p.1 + 0, p.2)) = r := by cases r <;> rfl
  unfold Instr.findKey
  rw [Sem.run_bind, run_underlying hu, Result.andThen_ok]
  rcases findNow_run hT hk (mapL L) 0 r hL' h.e with h1 | h1
  · rw [h1]
    have := findAsking_run hK hk w (mapL L) 0 r hL' h.e
    rw [e] at this
    exact this
  · rw [h1, e]
    rfl
/-! ### Operations -/
theorem NMap.make {t : TypeId} {m : List Blk} {K : AV → List Blk → Prop} (h : ∀ b, appK m (mapB b []) (K (.raw (.map (some b))))) : NMap P (Instr.makeMap t none) m K :=
  NMap.new (o := mapObj []) (r := fun b => .raw (.map (some b))) (fun w _ => rfl) fun b => appK_spec (h b)
theorem run_getObj {w : World} {b : Nat} {es : Array MapEntry} {c : Nat} (h : w.heap[b]? = some (.map es c)) : (getObj b).run P w = .ok (.map es c) w := by simp [getObj, Sem.run, h]
theorem run_setObj {w : World} {b : Nat} {es es' : Array MapEntry} {c c' : Nat} (h : w.heap[b]? = some (.map es c)) : (setObj b (.map es' c')).run P w = .ok () (setBlock w b (.map es' c')) := by
  simp [setObj, Sem.run, h, setBlock]
theorem mapL_push (L : List (Value × Value)) (k v : Value) : (mapL L).toArray.push ⟨k, v, L.length⟩ = (mapL (L ++ [(k, v)])).toArray := by
  simp [mapL, List.mapIdx_append]
theorem NMap.upd_new {t kt et : TypeId} {ok : Value → Prop} {m : List Blk} {K : AV → List Blk → Prop} {j b : Nat} {L : List (Value × Value)} {k v : Value} (hu : P.underlying t = some (.map kt et)) (hT : KeyT P kt ok) (hj : m[j]? = some (mapB b L)) (hL : ∀ q ∈ L, ok q.1) (hk : ok k)
    (hno : ∀ q ∈ L, q.1 ≠ k) (hK : setBlkK m j (mapB b (L ++ [(k, v)])) (K (.raw undef))) : NMap P (do Instr.mapUpdate t (.map (some b)) k v; pure undef) m K := by
  have hK := (setBlkK_spec hK).2
  refine NMap.put (o := mapObj L) (o' := mapObj (L ++ [(k, v)])) (r := .raw undef) hj (fun w hb hm => ⟨w, .inl rfl, ?_⟩) hK
  have hf := findKey_run hT hL hk (r := none) hno w
  simp only [Instr.mapUpdate, Sem.run_bind, run_underlying hu, Result.andThen_ok]
  simp only [run_getObj hb, Result.andThen_ok, mapObj, Sem.run_bind, hT.check false k w hk, hf, run_setObj hb, AV.den, mapL_push]
  simp [Sem.run_pure]
theorem NMap.upd_old {t kt et : TypeId} {ok : Value → Prop} {m : List Blk} {K : AV → List Blk → Prop} {j b i : Nat} {L : List (Value × Value)} {k v v0 : Value} (hu : P.underlying t = some (.map kt et)) (hT : KeyT P kt ok) (hj : m[j]? = some (mapB b L)) (hL : ∀ q ∈ L, ok q.1) (hk : ok k)
    (hi : FirstIs L k (some (i, v0))) (hK : setBlkK m j (mapB b (L.set i (k, v))) (K (.raw undef))) : NMap P (do Instr.mapUpdate t (.map (some b)) k v; pure undef) m K := by
  have hK := (setBlkK_spec hK).2
  refine NMap.put (o := mapObj L) (o' := mapObj (L.set i (k, v))) (r := .raw undef) hj (fun w hb hm => ⟨w, .inl rfl, ?_⟩) hK
  have hf := findKey_run hT hL hk (r := some (i, v0)) hi w
  have hi' : (mapL L).toArray[i]? = some ⟨k, v0, i⟩ := by rw [List.getElem?_toArray, mapL_get, hi.1]; rfl
  have hm' : ((mapL L).toArray.modify i fun e => { e with key := k, val := v }) = (mapL (L.set i (k, v))).toArray := by
    apply Array.ext_getElem?
    intro n
    rw [Array.getElem?_modify, List.getElem?_toArray, List.getElem?_toArray, mapL_get, mapL_get, List.getElem?_set]
    have hlt := (List.getElem?_eq_some_iff.1 hi.1).1
    by_cases e : i = n
    · subst e
      simp [hlt]
    · simp [e]
  simp only [Instr.mapUpdate, Sem.run_bind, run_underlying hu, Result.andThen_ok]
  simp only [run_getObj hb, Result.andThen_ok, mapObj, Sem.run_bind, hT.check false k w hk, hf, hi', Option.map_some, Option.getD_some, Instr.keyThatStays, hT.bits k hk, if_true, Sem.run_pure, run_setObj hb, AV.den, hm', List.length_set]
/-- Keys that are whole numbers. -/
theorem KeyT.int {kt : TypeId} (hu : P.underlying kt = some (.int .i64)) : KeyT P kt fun v => ∃ n : Int, v = .int .i64 n where
  check e x w := by
    rintro ⟨n, rfl⟩
    rw [show (10000 : Nat) = 9999 + 1 from rfl, Instr.checkKey, Sem.run_bind, run_underlying hu]
    rfl
  under := ⟨_, hu, fun x y hx hy => by
    obtain ⟨a, rfl⟩ := hx
    obtain ⟨b, rfl⟩ := hy
    by_cases e : a = b
    · subst e; exact .inr (.inl ⟨rfl, by simp [Instr.sameNow]⟩)
    · exact .inr (.inr ⟨fun h => e (by injection h), by simp [Instr.sameNow, e]⟩)⟩
  eq x y w := by
    rintro ⟨a, rfl⟩ ⟨b, rfl⟩
    have h1 : (Op.equal kt (.int .i64 a) (.int .i64 b)).run P w = .ok (a == b) w := run_equalIn_int w 9999 kt _ _ _ _ hu
    by_cases e : a = b
    · subst e; exact .inl ⟨rfl, by simpa using h1⟩
    · exact .inr ⟨fun h => e (by injection h), by rw [h1, show (a == b) = false by simp [e]]⟩
  bits x := by
    rintro ⟨n, rfl⟩
    simp [Instr.sameBits]
/-- A map lies in block b, be it one's own or read alone. -/
def MapIn (m : List Blk) (b : Nat) (L : List (Value × Value)) : Prop := ∀ w, MemOk m w → w.heap[b]? = some (mapObj L)
theorem MapIn.own {m : List Blk} {j b : Nat} {L : List (Value × Value)} (hj : m[j]? = some (mapB b L)) : MapIn m b L := fun w hm => hm.obj hj
theorem NMap.look_some {t kt et : TypeId} {ok : Value → Prop} {m : List Blk} {K : AV → List Blk → Prop} {b i : Nat} {L : List (Value × Value)} {k v : Value} {c : Bool} {x : AV} (hu : P.underlying t = some (.map kt et)) (hT : KeyT P kt ok) (hb : MapIn m b L) (hL : ∀ q ∈ L, ok q.1) (hk : ok k)
    (hi : FirstIs L k (some (i, v))) (hx : x.den = v) (hK : K (if c then .tup [x, .bool true] else x) m) : NMap P (Instr.lookup t (.map (some b)) k c) m K := by
  refine NMap.read (r := if c then .tup [x, .bool true] else x) (fun w hm => ?_) hK
  have hf := findKey_run hT hL hk hi w
  have hb := hb w hm
  unfold mapObj at hb
  simp only [Instr.lookup, Sem.run_bind, run_underlying hu, Result.andThen_ok, run_getObj hb, Sem.run_pure]
  rw [hT.check _ k w hk]
  simp only [Result.andThen_ok, hf, Sem.run_bind, Sem.run_pure]
  cases c
  · simp [hx]
  · simp [AV.den, denL, hx]
theorem NMap.look_none {t kt et : TypeId} {ok : Value → Prop} {m : List Blk} {K : AV → List Blk → Prop} {b : Nat} {L : List (Value × Value)} {k : Value} {c : Bool} {z : AV} (hu : P.underlying t = some (.map kt et)) (hz : zeroT P et = some z) (hT : KeyT P kt ok) (hb : MapIn m b L) (hL : ∀ q ∈ L, ok q.1) (hk : ok k)
    (hi : ∀ q ∈ L, q.1 ≠ k) (hK : K (if c then .tup [z, .bool false] else z) m) : NMap P (Instr.lookup t (.map (some b)) k c) m K := by
  refine NMap.read (r := if c then .tup [z, .bool false] else z) (fun w hm => ?_) hK
  have hf := findKey_run hT hL hk (r := none) hi w
  have hb := hb w hm
  unfold mapObj at hb
  simp only [Instr.lookup, Sem.run_bind, run_underlying hu, Result.andThen_ok, run_getObj hb, Sem.run_pure]
  rw [hT.check _ k w hk]
  simp only [Result.andThen_ok, hf, Sem.run_bind, Sem.run_pure, zeroT_run hz]
  cases c
  · simp
  · simp [AV.den, denL]
end
end Go.Sx


