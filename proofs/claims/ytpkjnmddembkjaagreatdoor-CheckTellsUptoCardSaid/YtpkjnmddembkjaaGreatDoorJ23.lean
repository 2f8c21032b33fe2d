/-
  Maps: what their operations do to maps of one's own; Networks that may be, by the program: its places, and a map of them.
-/
import Derived.Test.YtpkjnmddembkjaaGreatDoorSxC
import Derived.Maps.RangeRun
import Derived.Test.YtpkjnmddembkjaaGreatDoorJ22
namespace Go.Sx
open Go.RowKit
open Go.ChangeMaps (setBlock)
set_option linter.unusedVariables false
set_option maxRecDepth 20000
/-- A map, as its keys and values lie in it. -/
def mapL (L : List (Value × Value)) : List MapEntry := L.mapIdx fun i p => ⟨p.1, p.2, i⟩
def mapObj (L : List (Value × Value)) : Obj := .map (mapL L).toArray L.length
def mapB (b : Nat) (L : List (Value × Value)) : Blk := ⟨⟨b, 0, none⟩, [], .obj (mapObj L)⟩
/-- What goes through a map. -/
def itB (c b n : Nat) (seen : Array Nat) : Blk := ⟨⟨c, 0, none⟩, [], .obj (.mapIter (some b) n seen n)⟩
theorem mapL_len (L : List (Value × Value)) : (mapL L).length = L.length := by simp [mapL]
theorem mapL_get (L : List (Value × Value)) (i : Nat) : (mapL L)[i]? = (L[i]?).map fun p => ⟨p.1, p.2, i⟩ := by simp [mapL]
section
variable {P : Program}
theorem setBlock_heap {w : World} {b k : Nat} {o o' : Obj} (h : w.heap[b]? = some o) : (setBlock w b o').heap[k]? = if k = b then some o' else w.heap[k]? := by
  have hlt := (Array.getElem?_eq_some_iff.1 h).1
  simp only [setBlock]
  rw [Array.getElem?_setIfInBounds]
  by_cases e : b = k
  · subst e; simp [hlt]
  · rw [if_neg e, if_neg (fun e' => e e'.symm)]
theorem MemOk.obj {m : List Blk} {w : World} (hm : MemOk m w) {j b : Nat} {o : Obj} (hj : m[j]? = some ⟨⟨b, 0, none⟩, [], .obj o⟩) : w.heap[b]? = some o :=
  (hm.holds _ (List.mem_of_getElem? hj)).2.2.2
theorem put_mem {m : List Blk} {w w1 : World} {j b : Nat} {o : Obj} (o' : Obj) (hm : MemOk m w) (hj : m[j]? = some ⟨⟨b, 0, none⟩, [], .obj o⟩) (hw1 : w1 = w ∨ w1 = w.drew) :
    MemOk (m.set j ⟨⟨b, 0, none⟩, [], .obj o'⟩) (setBlock w1 b o') ∧ Fr (wrs m) w (setBlock w1 b o') ∧ Fresh (own m) w (m.set j ⟨⟨b, 0, none⟩, [], .obj o'⟩) := by
  have hb := hm.obj hj
  have hh : w1.heap = w.heap := by rcases hw1 with rfl | rfl <;> rfl
  have hb1 : w1.heap[b]? = some o := by rw [hh]; exact hb
  have hmem := List.mem_of_getElem? hj
  have hsz : (setBlock w1 b o').heap.size = w.heap.size := by simp [setBlock, hh]
  have hoth : ∀ k, k ≠ b → (setBlock w1 b o').heap[k]? = w.heap[k]? := fun k hk => by rw [setBlock_heap hb1, if_neg hk, hh]
  refine ⟨?_, ?_, ?_⟩
  · refine hm.set (Nat.le_of_eq hsz.symm) hj rfl (fun c hc hlt => hoth c fun e => hc (by rw [e]; rfl)) ⟨rfl, rfl, rfl, ?_⟩ (fun F e => by cases e) (.inr (.inl rfl))
    rw [setBlock_heap hb1, if_pos rfl]
  · refine ⟨?_, ?_, ?_, Nat.le_of_eq hsz.symm, fun k hk hS => hoth k fun e => hS ⟨_, hmem, rfl, by rw [e]; rfl⟩⟩
    all_goals rcases hw1 with rfl | rfl <;> rfl
  · exact Fresh.set (Fresh.self _ _) (fun F e => by cases e) fun c hc => .inl ⟨_, hmem, rfl, hc⟩
/-- An operation that turns an object of one's own into another one. -/
theorem gMap {s : Sem Value} {m : List Blk} {K : AV → List Blk → Prop} (h : NMap P s m K) : NMap P s m K := h
theorem NMap.put {s : Sem Value} {m : List Blk} {K : AV → List Blk → Prop} {j b : Nat} {o o' : Obj} {r : AV} (hj : m[j]? = some ⟨⟨b, 0, none⟩, [], .obj o⟩)
    (h : ∀ w, w.heap[b]? = some o → MemOk m w → ∃ w1, (w1 = w ∨ w1 = w.drew) ∧ s.run P w = .ok r.den (setBlock w1 b o')) (hK : K r (m.set j ⟨⟨b, 0, none⟩, [], .obj o'⟩)) : NMap P s m K := by
  rw [NMap_iff]
  intro w hm
  obtain ⟨w1, hw1, hrun⟩ := h w (hm.obj hj) hm
  obtain ⟨h1, h2, h3⟩ := put_mem o' hm hj hw1
  exact ⟨r, _, _, hrun, hK, h1, h2, h3⟩
/-- An operation that only reads. -/
theorem NMap.read {s : Sem Value} {m : List Blk} {K : AV → List Blk → Prop} {r : AV} (h : ∀ w, MemOk m w → s.run P w = .ok r.den w) (hK : K r m) : NMap P s m K := by
  rw [NMap_iff]
  exact fun w hm => ⟨r, m, w, h w hm, hK, hm, Fr.refl _ _, Fresh.self _ _⟩
/-- An operation that makes an object. -/
theorem NMap.new {s : Sem Value} {m : List Blk} {K : AV → List Blk → Prop} {o : Obj} {r : Nat → AV} (h : ∀ w, MemOk m w → s.run P w = .ok (r w.heap.size).den (w.alloc o)) (hK : ∀ b, K (r b) (m ++ [⟨⟨b, 0, none⟩, [], .obj o⟩])) : NMap P s m K := by
  rw [NMap_iff]
  intro w hm
  refine ⟨_, _, _, h w hm, hK _, ?_, Fr.alloc _ _ _, ?_⟩
  · refine hm.push (by simp) (fun k hk b hb => Below.heap_alloc _ _ _ ((hm.holds k hk).lt hb)) ?_ (fun b hb => ?_)
    · exact ⟨rfl, rfl, rfl, heap_alloc_new w _⟩
    · simp [Blk.foot, Blk.bn] at hb; omega
  · refine (Fresh.self _ _).push (fun F => by simp) fun b hb => ?_
    simp [Blk.bn] at hb
    omega
/-! ### Keys -/
/-- A type's keys: they can be told apart. -/
structure KeyT (P : Program) (kt : TypeId) (ok : Value → Prop) : Prop where
  check : ∀ e x w, ok x → (Instr.checkKey e 10000 kt x).run P w = .ok () w
  under : ∃ td, P.underlying kt = some td ∧ ∀ x y, ok x → ok y → Instr.sameNow td x y = none ∨ (x = y ∧ Instr.sameNow td x y = some true) ∨ (x ≠ y ∧ Instr.sameNow td x y = some false)
  eq : ∀ x y w, ok x → ok y → (x = y ∧ (Op.equal kt x y).run P w = .ok true w) ∨ (x ≠ y ∧ (Op.equal kt x y).run P w = .ok false w)
  bits : ∀ x, ok x → Instr.sameBits 10000 x x = true
/-- Where a key lies first. -/
def FirstIs (L : List (Value × Value)) (k : Value) : Option (Nat × Value) → Prop
  | none => ∀ q ∈ L, q.1 ≠ k
  | some (i, v) => L[i]? = some (k, v) ∧ ∀ j q, j < i → L[j]? = some q → q.1 ≠ k
def FirstE (L : List MapEntry) (k : Value) : Option (Nat × Value) → Prop
  | none => ∀ q ∈ L, q.key ≠ k
  | some (i, v) => (∃ q, L[i]? = some q ∧ q.key = k ∧ q.val = v) ∧ ∀ (j : Nat) (q : MapEntry), j < i → L[j]? = some q → q.key ≠ k
theorem FirstIs.e {L : List (Value × Value)} {k : Value} {r : Option (Nat × Value)} (h : FirstIs L k r) : FirstE (mapL L) k r := by
  cases r with
  | none =>
    intro q hq
    obtain ⟨i, hi⟩ := List.getElem?_of_mem hq
    rw [mapL_get] at hi
    cases hL : L[i]? with
    | none => rw [hL] at hi; cases hi
    | some p =>
      rw [hL] at hi
      injection hi with hi
      subst hi
      exact h p (List.mem_of_getElem? hL)
  | some x =>
    obtain ⟨i, v⟩ := x
    refine ⟨⟨⟨k, v, i⟩, by rw [mapL_get, h.1]; rfl, rfl, rfl⟩, fun j q hj hq => ?_⟩
    rw [mapL_get] at hq
    cases hL : L[j]? with
    | none => rw [hL] at hq; cases hq
    | some p =>
      rw [hL] at hq
      injection hq with hq
      subst hq
      exact h.2 j p hj hL
theorem FirstE.tail {e : MapEntry} {L : List MapEntry} {k : Value} (hne : e.key ≠ k) {r : Option (Nat × Value)} (h : FirstE (e :: L) k r) : ∃ r', FirstE L k r' ∧ r = r'.map fun p => (p.1 + 1, p.2) := by
  cases r with
  | none => exact ⟨none, fun q hq => h q (List.mem_cons_of_mem _ hq), rfl⟩
  | some x =>
    obtain ⟨i, v⟩ := x
    obtain ⟨⟨q, h1, h2, h3⟩, h4⟩ := h
    cases i with
    | zero => simp at h1; subst h1; exact absurd h2 hne
    | succ i => exact ⟨some (i, v), ⟨⟨q, by simpa using h1, h2, h3⟩, fun j p hj hp => h4 (j + 1) p (by omega) (by simpa using hp)⟩, rfl⟩
theorem FirstE.head {e : MapEntry} {L : List MapEntry} {r : Option (Nat × Value)} (h : FirstE (e :: L) e.key r) : r = some (0, e.val) := by
  cases r with
  | none => exact absurd rfl (h e (by simp))
  | some x =>
    obtain ⟨i, v⟩ := x
    obtain ⟨⟨q, h1, h2, h3⟩, h4⟩ := h
    cases i with
    | zero => simp at h1; subst h1; rw [h3]
    | succ i => exact absurd rfl (h4 0 e (by omega) rfl)
theorem findAsking_run {kt : TypeId} {ok : Value → Prop} (hK : KeyT P kt ok) {k : Value} (hk : ok k) (w : World) : ∀ (L : List MapEntry) (i : Nat) (r : Option (Nat × Value)), (∀ q ∈ L, ok q.key) → FirstE L k r →
    (Instr.findAsking kt k L i).run P w = .ok (r.map fun p => (p.1 + i, p.2)) w
  | [], i, r, _, h => by
    cases r with
    | none => rfl
    | some x => obtain ⟨⟨q, h1, _⟩, _⟩ := h; simp at h1
  | e :: L, i, r, hL, h => by
    unfold Instr.findAsking
    rw [Sem.run_bind]
    rcases hK.eq k e.key w hk (hL e (by simp)) with ⟨h1, h2⟩ | ⟨h1, h2⟩
    · subst h1
      rw [h2, h.head]
      simp
    · obtain ⟨r', h3, rfl⟩ := h.tail (Ne.symm h1)
      rw [h2]
      simp only [Result.andThen_ok, Bool.false_eq_true, if_false]
      rw [findAsking_run hK hk w L (i + 1) r' (fun q hq => hL q (List.mem_cons_of_mem _ hq)) h3]
      cases r' with
      | none => rfl
      | some p => simp only [Option.map_some]; rw [show p.1 + (i + 1) = p.1 + 1 + i by omega]
theorem findNow_run {td : TypeDesc} {ok : Value → Prop} (hT : ∀ x y, ok x → ok y → Instr.sameNow td x y = none ∨ (x = y ∧ Instr.sameNow td x y = some true) ∨ (x ≠ y ∧ Instr.sameNow td x y = some false)) {k : Value} (hk : ok k) : ∀ (L : List MapEntry) (i : Nat) (r : Option (Nat × Value)), (∀ q ∈ L, ok q.key) → FirstE L k r →
    Instr.findNow td k L i = none ∨ Instr.findNow td k L i = some (r.map fun p => (p.1 + i, p.2))
  | [], i, r, _, h => by
    cases r with
    | none => exact .inr rfl
    | some x => obtain ⟨⟨q, h1, _⟩, _⟩ := h; simp at h1
  | e :: L, i, r, hL, h => by
    unfold Instr.findNow
    rcases hT k e.key hk (hL e (by simp)) with h1 | ⟨h1, h2⟩ | ⟨h1, h2⟩
    · rw [h1]; exact .inl rfl
    · rw [h2]
      subst h1
      rw [h.head]
      exact .inr (by simp)
    · rw [h2]
      obtain ⟨r', h3, rfl⟩ := h.tail (Ne.symm h1)
      rcases findNow_run hT hk L (i + 1) r' (fun q hq => hL q (List.mem_cons_of_mem _ hq)) h3 with h4 | h4
      · exact .inl h4
      · refine .inr ?_
        simp only
        rw [h4]
        cases r' with
        | none => rfl
        | some p => simp only [Option.map_some]; rw [show p.1 + (i + 1) = p.1 + 1 + i by omega]
theorem findKey_run {kt : TypeId} {ok : Value → Prop} (hK : KeyT P kt ok) {L : List (Value × Value)} {k : Value} {r : Option (Nat × Value)} (hL : ∀ q ∈ L, ok q.1) (hk : ok k) (h : FirstIs L k r) (w : World) :
    (Instr.findKey kt k (mapL L)).run P w = .ok r w := by
  have hL' : ∀ q ∈ mapL L, ok q.key := fun q hq => by
    obtain ⟨i, hi⟩ := List.getElem?_of_mem hq
    rw [mapL_get] at hi
    cases hLi : L[i]? with
    | none => rw [hLi] at hi; cases hi
    | some p =>
      rw [hLi] at hi
      injection hi with hi
      subst hi
      exact hL p (List.mem_of_getElem? hLi)
  obtain ⟨td, hu, hT⟩ := hK.under
  have e : r.map (fun p => (p.1 + 0, p.2)) = r := by cases r <;> rfl
  unfold Instr.findKey
  rw [Sem.run_bind, run_underlying hu, Result.andThen_ok]
  rcases findNow_run hT hk (mapL L) 0 r hL' h.e with h1 | h1
  · rw [h1]
    have := findAsking_run hK hk w (mapL L) 0 r hL' h.e
    rw [e] at this
    exact this
  · rw [h1, e]
    rfl
/-! ### Operations -/
theorem NMap.make {t : TypeId} {m : List Blk} {K : AV → List Blk → Prop} (h : ∀ b, appK m (mapB b []) (K (.raw (.map (some b))))) : NMap P (Instr.makeMap t none) m K :=
  NMap.new (o := mapObj []) (r := fun b => .raw (.map (some b))) (fun w _ => rfl) fun b => appK_spec (h b)
theorem run_getObj {w : World} {b : Nat} {es : Array MapEntry} {c : Nat} (h : w.heap[b]? = some (.map es c)) : (getObj b).run P w = .ok (.map es c) w := by simp [getObj, Sem.run, h]
theorem run_setObj {w : World} {b : Nat} {es es' : Array MapEntry} {c c' : Nat} (h : w.heap[b]? = some (.map es c)) : (setObj b (.map es' c')).run P w = .ok () (setBlock w b (.map es' c')) := by
  simp [setObj, Sem.run, h, setBlock]
theorem mapL_push (L : List (Value × Value)) (k v : Value) : (mapL L).toArray.push ⟨k, v, L.length⟩ = (mapL (L ++ [(k, v)])).toArray := by
  simp [mapL, List.mapIdx_append]
/-- Keys of plain cells may be keys. -/
theorem flat_check (em : Bool) (w : World) : ∀ (n d : Nat) (t : TypeId) (ls : List Leaf) (x : AV) (xs : List AV), leafT P n t = some ls → flatT P n t = true → ShapeT P t x xs → (∃ b, eqCells ls xs xs = some b) →
    (Instr.checkKey em (d + n) t x.den).run P w = .ok () w
  | 0, _, _, _, _, _, h, _, _, _ => by simp [leafT] at h
  | n + 1, d, t, ls, x, xs, hl, hf, hx, he => by
    rw [← Nat.add_assoc]
    unfold leafT at hl
    unfold flatT at hf
    cases hu : P.underlying t with
    | none => simp [hu] at hl
    | some kd =>
      cases hs : szT P t with
      | none => simp [hu, hs] at hf
      | some s =>
        rw [hu] at hl
        rw [hu, hs] at hf
        unfold Instr.checkKey
        rw [Sem.run_bind, run_underlying hu, Result.andThen_ok]
        cases kd <;> simp only [Option.some.injEq, reduceCtorEq] at hl
        case bool => rfl
        case int k => rfl
        case string => rfl
        case struct fs =>
          have ha : aggT P t = some true := by simp [aggT, hu]
          have hx' : x = .agg xs := by
            rcases hx with ⟨_, h⟩ | ⟨h1, _⟩
            · exact h
            · rw [ha] at h1; cases h1
          subst hx'
          simp only [Bool.and_eq_true, Bool.not_eq_true', beq_iff_eq] at hf
          simp only [AV.den]
          rw [← Array.forIn_toList]
          have h2 := hf.2
          have h3 : ∃ b, eqCells ls (xs.drop 0) (xs.drop 0) = some b := by simpa using he
          have h0 : 0 ≤ xs.length := Nat.zero_le _
          clear he hf hx hs
          generalize fs.toList = L at hl h2 ⊢
          generalize (0 : Nat) = o at h2 h3 h0
          induction L generalizing o ls with
          | nil => simp
          | cons f L ih =>
            simp only [leafF] at hl
            split at hl
            · rename_i lx ly hlx hly
              injection hl with hl
              subst hl
              simp only [flatF] at h2
              split at h2
              · rename_i s1 hb hs1
                have hs2 := flat_size n f.type lx hlx hb
                rw [hs2] at hs1
                injection hs1 with hs1
                subst hs1
                split at h2
                · rename_i h4 h5
                  simp only [beq_iff_eq, beq_eq_false_iff_ne, ne_eq] at h4 h5
                  obtain ⟨b, h3⟩ := h3
                  obtain ⟨b1, b2, h6, h7, rfl⟩ := eqCells_append h3
                  have hlen := eqCells_length h3
                  simp only [List.length_drop, List.length_append] at hlen
                  obtain ⟨u, hu1, hu2⟩ := flat_part hlx hb (cs := xs) (off := o) (by omega)
                  have hr := flat_check em w n d f.type lx u _ hlx hb hu2 ⟨b1, h6⟩
                  rw [List.drop_drop] at h7
                  have hi := ih ly hly (o + lx.length) h2 ⟨b2, h7⟩ (by omega)
                  simp only [List.forIn_cons, Sem.run_bind, h4, h5, ne_eq, not_false_eq_true, if_true, hu1.runPart w, Result.andThen_ok, hr, Sem.run_pure] at hi ⊢
                  exact hi
                · cases h2
              · cases h2
            · cases hl
        case array len e =>
          have ha : aggT P t = some true := by simp [aggT, hu]
          have hx' : x = .agg xs := by
            rcases hx with ⟨_, h⟩ | ⟨h1, _⟩
            · exact h
            · rw [ha] at h1; cases h1
          subst hx'
          split at hl
          · rename_i l hle
            injection hl with hl
            subst hl
            simp only [Bool.and_eq_true] at hf
            have hse := flat_size n e l hle hf.1
            simp only [AV.den]
            simp only [Std.Legacy.Range.forIn_eq_forIn_range', Std.Legacy.Range.size, Nat.sub_zero, Nat.add_one_sub_one, Nat.div_one]
            have key : ∀ (m k : Nat), (∃ b, eqCells (repLeaf l m) (xs.drop (k * l.length)) (xs.drop (k * l.length)) = some b) →
                (forIn (List.range' k m) PUnit.unit fun i r => do
                  Instr.checkKey em (d + n) e (← part e (denL xs).toArray (i * (← sizeOf e)))
                  pure PUnit.unit
                  pure (ForInStep.yield PUnit.unit) : Sem PUnit).run P w = .ok PUnit.unit w := by
              intro m
              induction m with
              | zero => intro k _; simp
              | succ m ih =>
                intro k ⟨b, h3⟩
                simp only [repLeaf] at h3
                have hlen := eqCells_length h3
                simp only [List.length_drop, List.length_append] at hlen
                obtain ⟨b1, b2, h6, h7, rfl⟩ := eqCells_append h3
                rw [List.drop_drop] at h7
                have hc : l.length = 0 → k * l.length = 0 := fun h => by rw [h, Nat.mul_zero]
                obtain ⟨u, hu1, hu2⟩ := flat_part hle hf.1 (cs := xs) (off := k * l.length) (by omega)
                have hr := flat_check em w n d e l u _ hle hf.1 hu2 ⟨b1, h6⟩
                have hi := ih (k + 1) ⟨b2, by rw [Nat.add_mul, Nat.one_mul]; exact h7⟩
                simp only [List.range'_succ, List.forIn_cons, Sem.run_bind, run_sizeOf hse, hu1.runPart w, Result.andThen_ok, hr, Sem.run_pure]
                exact hi
            have := key len 0 (by simpa using he)
            simp only [Sem.run_bind, Sem.run_pure] at this ⊢
            rw [this]
            rfl
          · cases hl
/-- Whole numbers as cells. -/
def intsA (l : List Int) : List AV := l.map fun n => .int .i64 n
def intsV (l : List Int) : Value := .agg (l.map fun n => Value.int .i64 n).toArray
theorem intsA_den (l : List Int) : (AV.agg (intsA l)).den = intsV l := by
  unfold intsA intsV
  rw [AV.den]
  congr 2
  induction l with
  | nil => rfl
  | cons x l ih => rw [List.map_cons, denL, ih, List.map_cons]; rfl
theorem eqCells_ints : ∀ (a b : List Int), a.length = b.length → eqCells (List.replicate a.length .i) (intsA a) (intsA b) = some (decide (a = b))
  | [], [], _ => by simp [intsA, eqCells]
  | [], _ :: _, h => by simp at h
  | _ :: _, [], h => by simp at h
  | x :: a, y :: b, h => by
    have ih := eqCells_ints a b (by simpa using h)
    unfold intsA at *
    simp only [List.map_cons, List.length_cons, List.replicate_succ, eqCells, ih, eqCell, sameKind]
    by_cases h1 : x = y <;> by_cases h2 : a = b <;> simp [h1, h2]
/-- Keys that are structs, or arrays, of whole numbers alone. -/
theorem KeyT.ints {kt : TypeId} {n : Nat} (hl : leafT P 8 kt = some (List.replicate n .i)) (hf : flatT P 8 kt = true) (ha : aggT P kt = some true) : KeyT P kt fun v => ∃ l : List Int, l.length = n ∧ v = intsV l where
  check e x w := by
    rintro ⟨l, rfl, rfl⟩
    rw [← intsA_den]
    exact flat_check e w 8 9992 kt _ _ (intsA l) hl hf (.inl ⟨ha, rfl⟩) ⟨_, eqCells_ints l l rfl⟩
  under := by
    unfold aggT at ha
    cases hu : P.underlying kt with
    | none => rw [hu] at ha; cases ha
    | some td =>
      refine ⟨td, rfl, fun x y hx hy => .inl ?_⟩
      obtain ⟨l, _, rfl⟩ := hx
      obtain ⟨l', _, rfl⟩ := hy
      cases td <;> rfl
  eq x y w := by
    rintro ⟨a, ha1, rfl⟩ ⟨b, hb1, rfl⟩
    have he := eqCells_ints a b (by omega)
    rw [ha1] at he
    have h1 := flat_equal w 8 9992 kt _ (.agg (intsA a)) (.agg (intsA b)) _ _ _ hl hf (.inl ⟨ha, rfl⟩) (.inl ⟨ha, rfl⟩) he
    rw [intsA_den, intsA_den] at h1
    by_cases e : a = b
    · subst e
      rw [show decide (a = a) = true by simp] at h1
      exact .inl ⟨rfl, h1⟩
    · rw [decide_eq_false e] at h1
      refine .inr ⟨fun h => e ?_, h1⟩
      unfold intsV at h
      injection h with h
      have h2 := congrArg Array.toList h
      simp only  at h2
      exact (List.map_inj_right (fun p q h => by injection h)).1 h2
  bits x := by
    rintro ⟨l, _, rfl⟩
    unfold intsV
    have : ∀ (k : Nat) (a : List Int), ((a.map fun n => Value.int .i64 n).zip (a.map fun n => Value.int .i64 n)).all (fun (x, y) => Instr.sameBits k x y) = true := fun k a => by
      induction a with
      | nil => rfl
      | cons x a ih => simp only [List.map_cons, List.zip_cons_cons, List.all_cons, ih, Bool.and_true]; simp [Instr.sameBits]
    simp only [Instr.sameBits, beq_self_eq_true, Bool.true_and]
    exact this _ l
/-- Keys that are whole numbers. -/
theorem KeyT.int {kt : TypeId} (hu : P.underlying kt = some (.int .i64)) : KeyT P kt fun v => ∃ n : Int, v = .int .i64 n where
  check e x w := by
    rintro ⟨n, rfl⟩
    rw [show (10000 : Nat) = 9999 + 1 from rfl, Instr.checkKey, Sem.run_bind, run_underlying hu]
    rfl
  under := ⟨_, hu, fun x y hx hy => by
    obtain ⟨a, rfl⟩ := hx
    obtain ⟨b, rfl⟩ := hy
    by_cases e : a = b
    · subst e; exact .inr (.inl ⟨rfl, by simp [Instr.sameNow]⟩)
    · exact .inr (.inr ⟨fun h => e (by injection h), by simp [Instr.sameNow, e]⟩)⟩
  eq x y w := by
    rintro ⟨a, rfl⟩ ⟨b, rfl⟩
    have h1 : (Op.equal kt (.int .i64 a) (.int .i64 b)).run P w = .ok (a == b) w := run_equalIn_int w 9999 kt _ _ _ _ hu
    by_cases e : a = b
    · subst e; exact .inl ⟨rfl, by simpa using h1⟩
    · exact .inr ⟨fun h => e (by injection h), by rw [h1, show (a == b) = false by simp [e]]⟩
  bits x := by
    rintro ⟨n, rfl⟩
    simp [Instr.sameBits]
/-- A map lies in block b, be it one's own or read alone. -/
def MapIn (m : List Blk) (b : Nat) (L : List (Value × Value)) : Prop := ∀ w, MemOk m w → w.heap[b]? = some (mapObj L)
theorem MapIn.own {m : List Blk} {j b : Nat} {L : List (Value × Value)} (hj : m[j]? = some (mapB b L)) : MapIn m b L := fun w hm => hm.obj hj
theorem MapIn.heap {m : List Blk} {j b : Nat} {F : Heap} {L : List (Value × Value)} (hj : m[j]? = some (hpB F)) (h : F.o b (mapObj L)) : MapIn m b L := fun w hm => (hm.holds _ (List.mem_of_getElem? hj)).2.2 b _ h
theorem NMap.look_some {t kt et : TypeId} {ok : Value → Prop} {m : List Blk} {K : AV → List Blk → Prop} {b i : Nat} {L : List (Value × Value)} {k v : Value} {c : Bool} {x : AV} (hu : P.underlying t = some (.map kt et)) (hT : KeyT P kt ok) (hb : MapIn m b L) (hL : ∀ q ∈ L, ok q.1) (hk : ok k)
    (hi : FirstIs L k (some (i, v))) (hx : x.den = v) (hK : K (if c then .tup [x, .bool true] else x) m) : NMap P (Instr.lookup t (.map (some b)) k c) m K := by
  refine NMap.read (r := if c then .tup [x, .bool true] else x) (fun w hm => ?_) hK
  have hf := findKey_run hT hL hk hi w
  have hb := hb w hm
  unfold mapObj at hb
  simp only [Instr.lookup, Sem.run_bind, run_underlying hu, Result.andThen_ok, run_getObj hb, Sem.run_pure]
  rw [hT.check _ k w hk]
  simp only [Result.andThen_ok, hf, Sem.run_bind, Sem.run_pure]
  cases c
  · simp [hx]
  · simp [AV.den, denL, hx]
theorem NMap.look_none {t kt et : TypeId} {ok : Value → Prop} {m : List Blk} {K : AV → List Blk → Prop} {b : Nat} {L : List (Value × Value)} {k : Value} {c : Bool} {z : AV} (hu : P.underlying t = some (.map kt et)) (hz : zeroT P et = some z) (hT : KeyT P kt ok) (hb : MapIn m b L) (hL : ∀ q ∈ L, ok q.1) (hk : ok k)
    (hi : ∀ q ∈ L, q.1 ≠ k) (hK : K (if c then .tup [z, .bool false] else z) m) : NMap P (Instr.lookup t (.map (some b)) k c) m K := by
  refine NMap.read (r := if c then .tup [z, .bool false] else z) (fun w hm => ?_) hK
  have hf := findKey_run hT hL hk (r := none) hi w
  have hb := hb w hm
  unfold mapObj at hb
  simp only [Instr.lookup, Sem.run_bind, run_underlying hu, Result.andThen_ok, run_getObj hb, Sem.run_pure]
  rw [hT.check _ k w hk]
  simp only [Result.andThen_ok, hf, Sem.run_bind, Sem.run_pure, zeroT_run hz]
  cases c
  · simp
  · simp [AV.den, denL]
theorem NMap.entry_old {t kt et : TypeId} {ok : Value → Prop} {m : List Blk} {K : AV → List Blk → Prop} {j b i : Nat} {L : List (Value × Value)} {k v : Value} {x : AV} (hu : P.underlying t = some (.map kt et)) (hT : KeyT P kt ok) (hj : m[j]? = some (mapB b L)) (hL : ∀ q ∈ L, ok q.1) (hk : ok k)
    (hi : FirstIs L k (some (i, v))) (hx : x.den = v) (hK : setBlkK m j (mapB b L) (K (.tup [x, .int .i64 i]))) : NMap P (Instr.mapEntry t (.map (some b)) k) m K := by
  have hK := (setBlkK_spec hK).2
  refine NMap.put (o := mapObj L) (o' := mapObj L) (r := .tup [x, .int .i64 i]) hj (fun w hb hm => ⟨w, .inl rfl, ?_⟩) hK
  have hf := findKey_run hT hL hk hi w
  have hi' : (mapL L).toArray[i]? = some ⟨k, v, i⟩ := by rw [List.getElem?_toArray, mapL_get, hi.1]; rfl
  have hm' : ((mapL L).toArray.modify i fun e => { e with key := k }) = (mapL L).toArray := by
    apply Array.ext_getElem?
    intro n
    rw [Array.getElem?_modify]
    split
    · rename_i e
      subst e
      rw [hi']
      rfl
    · rfl
  unfold mapObj at hb ⊢
  simp only [Instr.mapEntry, Sem.run_bind, run_underlying hu, Result.andThen_ok, run_getObj hb]
  rw [hT.check _ k w hk]
  simp only [Result.andThen_ok, hf, Sem.run_bind, Sem.run_pure, hi', Option.map_some, Option.getD_some, Instr.keyThatStays, hT.bits k hk, if_true, hm', run_setObj hb, AV.den, denL, hx]
  rfl
theorem NMap.entry_new {t kt et : TypeId} {ok : Value → Prop} {m : List Blk} {K : AV → List Blk → Prop} {j b : Nat} {L : List (Value × Value)} {k : Value} {z : AV} (hu : P.underlying t = some (.map kt et)) (hz : zeroT P et = some z) (hT : KeyT P kt ok) (hj : m[j]? = some (mapB b L)) (hL : ∀ q ∈ L, ok q.1) (hk : ok k)
    (hi : ∀ q ∈ L, q.1 ≠ k) (hK : setBlkK m j (mapB b (L ++ [(k, z.den)])) (K (.tup [z, .int .i64 L.length]))) : NMap P (Instr.mapEntry t (.map (some b)) k) m K := by
  have hK := (setBlkK_spec hK).2
  refine NMap.put (o := mapObj L) (o' := mapObj (L ++ [(k, z.den)])) (r := .tup [z, .int .i64 L.length]) hj (fun w hb hm => ⟨w, .inl rfl, ?_⟩) hK
  have hf := findKey_run hT hL hk (r := none) hi w
  unfold mapObj at hb ⊢
  simp only [Instr.mapEntry, Sem.run_bind, run_underlying hu, Result.andThen_ok, run_getObj hb]
  rw [hT.check _ k w hk]
  simp only [Result.andThen_ok, hf, Sem.run_bind, Sem.run_pure, zeroT_run hz, run_setObj hb, AV.den, denL, mapL_push, List.length_append, List.length_cons, List.length_nil]
  rfl
theorem mapL_born (L : List (Value × Value)) {i : Nat} (h : i < L.length) : (mapL L).toArray.findIdx? (fun e => (e.born : Int) == (i : Int)) = some i := by
  rw [List.findIdx?_toArray, List.findIdx?_eq_some_iff_getElem]
  have hl : i < (mapL L).length := by rw [mapL_len]; exact h
  have hb : ∀ j (hj : j < (mapL L).length), ((mapL L)[j]).born = j := fun j hj => by
    have := mapL_get L j
    rw [List.getElem?_eq_getElem hj, List.getElem?_eq_getElem (by rw [mapL_len] at hj; exact hj)] at this
    simp only [Option.map_some, Option.some.injEq] at this
    rw [this]
  refine ⟨hl, by rw [hb i hl]; simp, fun j hj => ?_⟩
  rw [hb j (by omega)]
  simp
  omega
theorem NMap.entry_store {t : TypeId} {m : List Blk} {K : AV → List Blk → Prop} {j b i : Nat} {L : List (Value × Value)} {k v v0 : Value} (hj : m[j]? = some (mapB b L)) (hi : L[i]? = some (k, v0)) (hK : setBlkK m j (mapB b (L.set i (k, v))) (K (.raw undef))) :
    NMap P (do Instr.entryStore t (.map (some b)) (.int .i64 i) v; pure undef) m K := by
  have hK := (setBlkK_spec hK).2
  refine NMap.put (o := mapObj L) (o' := mapObj (L.set i (k, v))) (r := .raw undef) hj (fun w hb hm => ⟨w, .inl rfl, ?_⟩) hK
  have hlt := (List.getElem?_eq_some_iff.1 hi).1
  have hm' : ((mapL L).toArray.modify i fun e => { e with val := v }) = (mapL (L.set i (k, v))).toArray := by
    apply Array.ext_getElem?
    intro n
    rw [Array.getElem?_modify, List.getElem?_toArray, List.getElem?_toArray, mapL_get, mapL_get, List.getElem?_set]
    by_cases e : i = n
    · subst e
      have hk : L[i].1 = k := by
        have := List.getElem?_eq_getElem hlt
        rw [hi] at this
        injection this with this
        rw [← this]
      simp [hlt, hk]
    · simp [e]
  unfold mapObj at hb ⊢
  simp only [Instr.entryStore, Sem.run_bind, Sem.run_pure, Result.andThen_ok, run_getObj hb, asInt, asIntOf, mapL_born L hlt, hm', run_setObj hb, AV.den, List.length_set]
theorem NMap.range {t kt et : TypeId} {m : List Blk} {K : AV → List Blk → Prop} {b : Nat} {L : List (Value × Value)} (hu : P.underlying t = some (.map kt et)) (hb : MapIn m b L) (hK : ∀ c, appK m (itB c b L.length #[]) (K (.raw (.pointer (some ⟨c, 0, none⟩))))) : NMap P (Instr.range t (.map (some b))) m K := by
  have hK := fun c => appK_spec (hK c)
  refine NMap.new (o := .mapIter (some b) L.length #[] L.length) (r := fun c => .raw (.pointer (some ⟨c, 0, none⟩))) (fun w hm => ?_) hK
  have hb := hb w hm
  unfold mapObj at hb
  simp only [Instr.range, Sem.run_bind, run_underlying hu, Result.andThen_ok, run_getObj hb, Sem.run_pure]
  rfl
/-- One round more, or none. -/
theorem NMap.next {m : List Blk} {K : AV → List Blk → Prop} {j b c : Nat} {seen : Array Nat} {L : List (Value × Value)} (hj : m[j]? = some (itB c b L.length seen)) (hb : MapIn m b L)
    (h0 : (∀ i, i < L.length → seen.contains i = true) → K (.tup [.bool false]) m)
    (h1 : ∀ i k v, L[i]? = some (k, v) → seen.contains i = false → ∃ x y : AV, x.den = k ∧ y.den = v ∧ setBlkK m j (itB c b L.length (seen.push i)) (K (.tup [.bool true, x, y]))) :
    NMap P (Instr.next (.pointer (some ⟨c, 0, none⟩)) false 0) m K := by
  rw [NMap_iff]
  intro w hm
  have hc := hm.obj hj
  have hmb := hb w hm
  have hborn : ∀ x ∈ (mapL L).toArray.toList, x.born < L.length := fun x hx => by
    obtain ⟨i, hi⟩ := List.getElem?_of_mem hx
    rw [mapL_get] at hi
    cases hL : L[i]? with
    | none => rw [hL] at hi; cases hi
    | some p =>
      rw [hL] at hi
      injection hi with hi
      subst hi
      exact (List.getElem?_eq_some_iff.1 hL).1
  rcases run_next_at (P := P) w 0 c b L.length L.length seen (mapL L).toArray L.length hc hmb hborn (Nat.le_refl _) with ⟨h2, h3⟩ | ⟨e, he, w1, hw1, h3⟩
  · refine ⟨.tup [.bool false], m, w, h3, h0 fun i hi => ?_, hm, Fr.refl _ _, Fresh.self _ _⟩
    cases hs : seen.contains i with
    | true => rfl
    | false =>
      exfalso
      have hg : L[i]? = some L[i] := List.getElem?_eq_getElem hi
      have : (⟨L[i].1, L[i].2, i⟩ : MapEntry) ∈ leftOf (mapL L).toArray seen := by
        unfold leftOf
        rw [Array.mem_filter]
        exact ⟨by rw [List.mem_toArray]; exact List.mem_of_getElem? (by rw [mapL_get, hg]; rfl), by simp only [hs]; rfl⟩
      rw [Array.eq_empty_of_size_eq_zero h2] at this
      simp at this
  · unfold leftOf at he
    rw [Array.mem_toList_iff, Array.mem_filter, List.mem_toArray] at he
    obtain ⟨he1, he2⟩ := he
    obtain ⟨i, hi⟩ := List.getElem?_of_mem he1
    rw [mapL_get] at hi
    cases hL : L[i]? with
    | none => rw [hL] at hi; cases hi
    | some p =>
      rw [hL] at hi
      injection hi with hi
      subst hi
      obtain ⟨x, y, hx, hy, hK⟩ := h1 i p.1 p.2 hL (by simpa using he2)
      have hK := (setBlkK_spec hK).2
      obtain ⟨h4, h5, h6⟩ := put_mem (.mapIter (some b) L.length (seen.push i) L.length) hm hj hw1
      refine ⟨.tup [.bool true, x, y], _, _, ?_, hK, h4, h5, h6⟩
      rw [h3]
      simp [AV.den, denL, hx, hy]
def addO (F : Heap) (b : Nat) (o : Obj) : Heap := ⟨F.c, fun b' o' => F.o b' o' ∨ (b' = b ∧ o' = o)⟩
theorem addO.old {F : Heap} {b : Nat} {o : Obj} : F.le (addO F b o) := ⟨fun _ _ h => h, fun _ _ h => .inl h⟩
end
end Go.Sx
namespace Go.Proofs.YtpkjnmddembkjaaGreatDoor
open Go.Sx
set_option maxRecDepth 20000
set_option linter.unusedSimpArgs false
set_option linter.unusedVariables false
set_option maxHeartbeats 4000000
set_option linter.unusedVariables false
namespace Tp
def plV (x : Pl) : List Value := [.int .i64 x.1, .int .i64 x.2]
def plC (ps : List Pl) : List AV := ps.flatMap fun x => [.int .i64 x.1, .int .i64 x.2]
abbrev PRow (F : Heap) (v : Value) (l : List Pl) : Prop := RowF F 2 (fun x us => us = plV x) v l
theorem plC_len (ps : List Pl) : (plC ps).length = ps.length * 2 := by
  induction ps with
  | nil => rfl
  | cons p ps ih => unfold plC at *; rw [List.flatMap_cons, List.length_append, ih]; simp only [List.length_cons, List.length_nil]; omega
theorem plC_next (ps : List Pl) (p : Pl) : plC (ps ++ [p]) = plC ps ++ [.int .i64 p.1, .int .i64 p.2] := by unfold plC; rw [List.flatMap_append]; simp
theorem plC_next2 (ps : List Pl) (p q : Pl) : plC (ps ++ [p, q]) = plC ps ++ [.int .i64 p.1, .int .i64 p.2, .int .i64 q.1, .int .i64 q.2] := by unfold plC; rw [List.flatMap_append]; simp
theorem plC_den (ps : List Pl) : denL (plC ps) = ps.flatMap plV := by
  induction ps with
  | nil => rfl
  | cons p ps ih => unfold plC at *; rw [List.flatMap_cons, List.flatMap_cons, denL_append, ih]; rfl
theorem PRow.get {F : Heap} {v : Value} {l : List Pl} (h : PRow F v l) {i : Nat} {x : Pl} (hx : l[i]? = some x) :
    F.c ((addrOf v).add (i * 2)) (.int .i64 x.1) ∧ F.c ((addrOf v).add (i * 2 + 1)) (.int .i64 x.2) := by
  obtain ⟨us, rfl, _, h2⟩ := h.at_ i x hx
  simp only [plV, CellsF, Nat.add_assoc, Nat.reduceAdd] at h2
  obtain ⟨c0, c1, _⟩ := h2
  exact ⟨c0, c1⟩
def plK (x : Pl) : Value := .agg #[.int .i64 x.1, .int .i64 x.2]
theorem plK_inj {x y : Pl} (h : plK x = plK y) : x = y := by
  obtain ⟨a, b⟩ := x
  obtain ⟨c, d⟩ := y
  unfold plK at h
  injection h with h
  simp at h
  rw [h.1, h.2]
/-- The map of those seen. -/
def seenL (l : List Pl) : List (Value × Value) := l.map fun x => (plK x, .int .i64 1)
theorem seen_next (l : List Pl) (x : Pl) : seenL (l ++ [x]) = seenL l ++ [(plK x, .int .i64 1)] := by unfold seenL; rw [List.map_append]; rfl
def plOkV (v : Value) : Prop := ∃ l : List Int, l.length = 2 ∧ v = intsV l
theorem plK_ok (x : Pl) : plOkV (plK x) := ⟨[x.1, x.2], rfl, rfl⟩
theorem seen_ok {l : List Pl} : ∀ q ∈ seenL l, plOkV q.1 := fun q hq => by
  obtain ⟨x, _, rfl⟩ := List.mem_map.1 hq
  exact plK_ok x
theorem seen_no {l : List Pl} {x : Pl} (h : x ∉ l) : ∀ q ∈ seenL l, q.1 ≠ plK x := fun q hq e => by
  obtain ⟨y, hy, rfl⟩ := List.mem_map.1 hq
  exact h (plK_inj e ▸ hy)
theorem seen_at {l : List Pl} {x : Pl} (hn : l.Nodup) (h : x ∈ l) : ∃ i, i < l.length ∧ FirstIs (seenL l) (plK x) (some (i, .int .i64 1)) ∧ (seenL l)[i]? = some (plK x, .int .i64 1) := by
  obtain ⟨i, hi, rfl⟩ := List.getElem_of_mem h
  have e : (seenL l)[i]? = some (plK l[i], .int .i64 1) := by unfold seenL; rw [List.getElem?_map, List.getElem?_eq_getElem hi]; rfl
  refine ⟨i, hi, ⟨e, fun j q hj hq => ?_⟩, e⟩
  unfold seenL at hq
  rw [List.getElem?_map, List.getElem?_eq_getElem (by omega)] at hq
  simp only [Option.map_some, Option.some.injEq] at hq
  subst hq
  intro he
  have := (List.getElem_inj hn).1 (plK_inj he)
  omega
end Tp
theorem placeT : KeyT Tryz.prog 115 Tp.plOkV := KeyT.ints (by kernel_rfl) (by kernel_rfl) (by kernel_rfl)
theorem pl_den (a p : Int) : (AV.agg [.int .i64 a, .int .i64 p]).den = Tp.plK (a, p) := intsA_den [a, p]
theorem map_den (b : Nat) : (AV.raw (Value.map (some b))).den = .map (some b) := by rw [AV.den]
section
variable {t : TypeId} {m : List Blk} {K : AV → List Blk → Prop} {b j : Nat} {M : List (Value × Value)} {a p : Int}
theorem pl_look_new (hu : Tryz.prog.underlying t = some (.map 115 3)) (hb : MapIn m b M) (hM : ∀ q ∈ M, Tp.plOkV q.1) (hn : ∀ q ∈ M, q.1 ≠ Tp.plK (a, p)) (hK : K (.int .i64 0) m) :
    NMap Tryz.prog (Instr.lookup t (AV.raw (Value.map (some b))).den (AV.agg [.int .i64 a, .int .i64 p]).den false) m K := by
  rw [pl_den, map_den]
  exact NMap.look_none (z := .int .i64 0) hu (by kernel_rfl) placeT hb hM (Tp.plK_ok _) hn hK
theorem pl_look_old (v : Int) (i : Nat) (hu : Tryz.prog.underlying t = some (.map 115 3)) (hb : MapIn m b M) (hM : ∀ q ∈ M, Tp.plOkV q.1) (hi : FirstIs M (Tp.plK (a, p)) (some (i, .int .i64 v))) (hK : K (.int .i64 v) m) :
    NMap Tryz.prog (Instr.lookup t (AV.raw (Value.map (some b))).den (AV.agg [.int .i64 a, .int .i64 p]).den false) m K := by
  rw [pl_den, map_den]
  exact NMap.look_some (x := .int .i64 v) hu placeT hb hM (Tp.plK_ok _) hi (by rw [AV.den]) hK
theorem pl_entry_new (hu : Tryz.prog.underlying t = some (.map 115 3)) (hj : m[j]? = some (mapB b M)) (hM : ∀ q ∈ M, Tp.plOkV q.1) (hn : ∀ q ∈ M, q.1 ≠ Tp.plK (a, p)) (hK : setBlkK m j (mapB b (M ++ [(Tp.plK (a, p), .int .i64 0)])) (K (.tup [.int .i64 0, .int .i64 M.length]))) :
    NMap Tryz.prog (Instr.mapEntry t (AV.raw (Value.map (some b))).den (AV.agg [.int .i64 a, .int .i64 p]).den) m K := by
  rw [pl_den, map_den]
  refine NMap.entry_new (z := .int .i64 0) hu (by kernel_rfl) placeT hj hM (Tp.plK_ok _) hn ?_
  rw [AV.den]
  exact hK
theorem pl_entry_old (v : Int) (i : Nat) (hu : Tryz.prog.underlying t = some (.map 115 3)) (hj : m[j]? = some (mapB b M)) (hM : ∀ q ∈ M, Tp.plOkV q.1) (hi : FirstIs M (Tp.plK (a, p)) (some (i, .int .i64 v))) (hK : setBlkK m j (mapB b M) (K (.tup [.int .i64 v, .int .i64 i]))) :
    NMap Tryz.prog (Instr.mapEntry t (AV.raw (Value.map (some b))).den (AV.agg [.int .i64 a, .int .i64 p]).den) m K := by
  rw [pl_den, map_den]
  exact NMap.entry_old (x := .int .i64 v) hu placeT hj hM (Tp.plK_ok _) hi (by rw [AV.den]) hK
theorem first_last {k v : Value} (hn : ∀ q ∈ M, q.1 ≠ k) : FirstIs (M ++ [(k, v)]) k (some (M.length, v)) := by
  refine ⟨by simp, fun j q hj hq => ?_⟩
  rw [List.getElem?_append_left hj] at hq
  exact hn q (List.mem_of_getElem? hq)
theorem first_set {k v v0 : Value} {i : Nat} (hi : FirstIs M k (some (i, v0))) : FirstIs (M.set i (k, v)) k (some (i, v)) := by
  have hlt := (List.getElem?_eq_some_iff.1 hi.1).1
  refine ⟨by simp [hlt], fun j q hj hq => ?_⟩
  rw [List.getElem?_set_ne (by omega)] at hq
  exact hi.2 j q hj hq
theorem pl_store_new {k v0 : Value} {v : Int} (hj : m[j]? = some (mapB b (M ++ [(k, v0)]))) (hK : setBlkK m j (mapB b (M ++ [(k, .int .i64 v)])) (K (.raw undef))) :
    NMap Tryz.prog (do Instr.entryStore t (AV.raw (Value.map (some b))).den (AV.int IntKind.i64 M.length).den (AV.int IntKind.i64 v).den; pure undef) m K := by
  rw [map_den, AV.den, AV.den]
  refine NMap.entry_store (k := k) (v0 := v0) hj (by simp) ?_
  rw [List.set_append_right _ _ (Nat.le_refl _), Nat.sub_self]
  exact hK
theorem pl_store_old {k v0 : Value} {v : Int} {i : Nat} (hj : m[j]? = some (mapB b M)) (hi : M[i]? = some (k, v0)) (hK : setBlkK m j (mapB b (M.set i (k, .int .i64 v))) (K (.raw undef))) :
    NMap Tryz.prog (do Instr.entryStore t (AV.raw (Value.map (some b))).den (AV.int IntKind.i64 i).den (AV.int IntKind.i64 v).den; pure undef) m K := by
  rw [map_den, AV.den, AV.den]
  exact NMap.entry_store hj hi hK
theorem ok_next {k v : Value} (hM : ∀ q ∈ M, Tp.plOkV q.1) (hk : Tp.plOkV k) : ∀ q ∈ M ++ [(k, v)], Tp.plOkV q.1 := fun q hq => by
  rcases List.mem_append.1 hq with h | h
  · exact hM q h
  · simp only [List.mem_singleton] at h; subst h; exact hk
theorem ok_set {k v : Value} {i : Nat} (hM : ∀ q ∈ M, Tp.plOkV q.1) (hk : Tp.plOkV k) : ∀ q ∈ M.set i (k, v), Tp.plOkV q.1 := fun q hq => by
  rcases List.mem_or_eq_of_mem_set hq with h | h
  · exact hM q h
  · subst h; exact hk
end
theorem places17_c (F : Heap) (t : Tp.T) (lv hv : Value) (ht : Tp.At F t lv hv) (hl : t.ls.length ≤ 1000) (hh : t.hs.length ≤ 1000) : NCall Tryz.prog 75 [.agg (Tp.cs t lv hv)] [hpB F] fun r m => ∃ F' v, F.le F' ∧ Tp.PRow F' v (Tp.places t) ∧ r = .hs v (Tp.places t).length ∧ m = [hpB F'] := by
  refine Go.Sx.NCall.know (K := fun r m => ∃ w, r.den = (AV.sl 1 w (Tp.places t).length).den ∧ MemFits m [hpB F, ⟨addrOf w, Tp.plC (Tp.places t), .row w 115 2 (Tp.places t).length⟩]) ?_ fun r m' ⟨w, hr, hm⟩ ⟨W, hw⟩ => ?_
  rotate_left
  · have hok := ((hm W hw).1.row (List.mem_cons_of_mem _ (List.mem_cons_self ..))).1
    have hrow := rowF_new (F := F) (sz := 2) (enc := Tp.plV) hok (Tp.plC_den _) (fun x _ => rfl)
    exact ⟨.hs w (Tp.places t).length, _, hr.symm, hm.trans (MemFits.freeze (m := [])), _, w, addF.old, hrow, rfl, rfl⟩
  have hlo := ht.l.ok
  have hho := ht.h.ok
  obtain ⟨n, ls, hs⟩ := t
  unfold Tp.cs
  simp only at *
  have hpl : (Tp.places ⟨n, ls, hs⟩) = ls.flatMap Tp.lkP ++ hs.map Tp.hsP := rfl
  generalize Tp.places ⟨n, ls, hs⟩ = L at *
  refine ncall_of Tryz.func75 rfl (by decide) ?_
  (repeat' (first|(with_reducible first|(refine hK _ _ ?_;clear hK K)|(refine hK _ ?_;clear hK K))|((with_reducible refine gO ?_);(first|((with_reducible refine z25 ?_);intro K hK;(conv=>whnf))|(with_reducible refine z0 ?_)))|((first|((with_reducible refine gN ?_);(with_reducible refine NN.a5 ?_))|((with_reducible refine gH ?_);((with_reducible refine NH.mk ?s ?_);case s=>(and_intros<;>first|with_reducible rfl|omega))))<;>(conv=>whnf))|((with_reducible refine gX ?_);((with_reducible first|refine z3 ?_|refine z4 ?_|refine z5 ?_)))|(with_reducible first|refine z1 ?_|refine z2 ?_)|((with_reducible refine gF ?_);((refine z33 rfl ?_);intro K hK;(conv=>whnf)))|((intro _;skip)<;>(conv=>whnf))))
  refine st_auto (α := Value × Nat × List Tp.Pl) (fun (w, i, ps) => i ≤ ls.length ∧ ps.length = 2 * i ∧ ps = (ls.take i).flatMap Tp.lkP) (fun (w, i, ps) => [.keep, .keep, .keep, .set (.sl 2 w ps.length), .keep, .drop, .keep, .keep, .keep, .keep, .keep, .set (.int .i64 i), .drop, .drop, .drop, .drop, .drop, .drop, .drop, .drop, .drop, .drop, .drop, .drop, .drop, .drop, .drop, .drop, .drop, .keep, .keep, .keep, .keep, .keep, .keep, .keep, .keep, .keep, .keep, .keep, .keep, .keep, .keep, .keep, .keep, .keep])
    (fun (w, i, ps) => [.keep, .keep, .set ⟨addrOf w, Tp.plC ps, .row w 115 2 ps.length⟩]) (fun (w, i, ps) => ls.length - i) (.slice none 0 0, 0, []) ⟨Nat.zero_le _, rfl, rfl⟩ ?_ ((MemFits.nilRow _ 115 2).trans (MemFits.congr rfl)) ?_
  · repeat (first | exact FitsSl.nil | refine FitsSl.any ?_ | refine FitsSl.cons (Fit1.int (by first | rfl | omega)) ?_ | refine FitsSl.cons (Fit1.bool rfl) ?_ | refine FitsSl.cons (Fit1.str rfl) ?_ | refine FitsSl.cons (Fit1.same (by intro h; cases h) (by with_reducible rfl)) ?_ | refine FitsSl.cons Fit1.nil_sl ?_ | refine FitsSl.cons (Fit1.hs rfl) ?_ | refine FitsSl.cons (Fit1.hp rfl rfl) ?_ | refine FitsSl.cons (Fit1.sl rfl) ?_ | refine FitsSl.cons (Fit1.ptr rfl rfl) ?_ | refine FitsSl.cons Fit1.raw ?_)
  (intro ⟨w, i, ps⟩ ⟨hi, hpn, hps⟩; intro K hK; (conv=>whnf); refine hK _ _ ?_; clear hK K)
  dsimp only
  generalize hk : ps.length = k at *
  have hpcl := Tp.plC_len ps
  by_cases hlt : i < ls.length
  · have hx : ls[i]? = some ls[i] := List.getElem?_eq_getElem hlt
    obtain ⟨c0, c1, c2, c3, c4, c5⟩ := ht.l.get hx
    have hnx : (ls.take (i + 1)).flatMap Tp.lkP = ps ++ Tp.lkP ls[i] := by rw [List.take_add_one, hx, List.flatMap_append, hps]; simp
    generalize ls[i] = x at *
    have hn2 := Tp.plC_next2 ps (x.a, x.pa) (x.b, x.pb)
    generalize hpc : Tp.plC ps = pc at *
    obtain ⟨a, pa, b, pb, least, most⟩ := x
    (repeat' (first|(with_reducible first|(refine hK _ _ ?_;clear hK K)|(refine hA ?_;clear hA hB A B))|((with_reducible refine gO ?_);(first|((with_reducible refine z25 ?_);intro K hK;(conv=>whnf))|(with_reducible refine z0 ?_)))|((first|((with_reducible refine gV ?_);(((with_reducible refine NV.i64 ?s ?_);case s=>omega)))|((with_reducible refine gI ?_);(((with_reducible refine NIf.decY ?s ?_);case s=>omega)))|((with_reducible refine gN ?_);(with_reducible first|refine NN.cast ?_|refine NN.a5 ?_|refine NN.keep ?_))|((with_reducible refine gH ?_);((with_reducible refine NH.mk ?s ?_);case s=>(and_intros<;>first|with_reducible rfl|((with_reducible refine gOnes ?_);rfl)|((with_reducible refine gLen ?_);rfl)|omega)))|(with_reducible refine NLd.of (by with_reducible assumption) ?_))<;>(conv=>whnf))|((with_reducible refine gX ?_);(first|(with_reducible first|refine z3 ?_|refine z4 ?_|refine z5 ?_|refine z6 ?_)|((with_reducible refine z29 ?_);intro A B hA hB;(conv=>whnf))))|(with_reducible first|refine z1 ?_|refine z2 ?_|refine z9 ?_)|((intro _;skip)<;>(conv=>whnf))))
    all_goals
      rename_i v9
      refine st_round (v9, i + 1, ps ++ [(a, pa), (b, pb)]) ⟨hlt, by rw [List.length_append, hk, hpn]; show 2 * i + 2 = 2 * (i + 1); omega, hnx.symm⟩ (show ls.length - (i + 1) < ls.length - i by omega) ?_ (MemFits.pre 3 ?_)
      · simp only [List.length_append, hk]
        repeat (first | exact FitsSl.nil | refine FitsSl.any ?_ | refine FitsSl.cons (Fit1.int (by first | rfl | omega)) ?_ | refine FitsSl.cons (Fit1.bool rfl) ?_ | refine FitsSl.cons (Fit1.str rfl) ?_ | refine FitsSl.cons (Fit1.same (by intro h; cases h) (by with_reducible rfl)) ?_ | refine FitsSl.cons Fit1.nil_sl ?_ | refine FitsSl.cons (Fit1.hs rfl) ?_ | refine FitsSl.cons (Fit1.hp rfl rfl) ?_ | refine FitsSl.cons (Fit1.sl rfl) ?_ | refine FitsSl.cons (Fit1.ptr rfl rfl) ?_ | refine FitsSl.cons Fit1.raw ?_)
      · simp only [autoM, List.take, List.length_append, hk, hn2]
        rw [show k + [((a, pa) : Tp.Pl), (b, pb)].length = k + 2 from rfl]
        rfl
  have hkl : i = ls.length := by omega
  subst hkl
  rw [List.take_length] at hps
  have hps0 := hps
  generalize hpc : Tp.plC ps = pc at *
  (repeat' (first|(with_reducible first|(refine hK _ _ ?_;clear hK K)|(refine hB ?_;clear hA hB A B))|((with_reducible refine gO ?_);(first|((with_reducible refine z25 ?_);intro K hK;(conv=>whnf))|(with_reducible refine z0 ?_)))|((first|((with_reducible refine gI ?_);(((with_reducible refine NIf.decN ?s ?_);case s=>omega)))|((with_reducible refine gN ?_);(with_reducible refine NN.a5 ?_))|((with_reducible refine gH ?_);((with_reducible refine NH.mk ?s ?_);case s=>(and_intros<;>first|with_reducible rfl|omega))))<;>(conv=>whnf))|((with_reducible refine gX ?_);(first|(with_reducible first|refine z3 ?_|refine z4 ?_|refine z5 ?_|refine z7 ?_)|((with_reducible refine z29 ?_);intro A B hA hB;(conv=>whnf))))|(with_reducible first|refine z1 ?_|refine z2 ?_|refine z10 ?_|refine z11 ?_|refine z19 ?_)))
  subst hpc
  refine st_auto (α := Value × Nat × List Tp.Pl) (fun (w, i, qs) => i ≤ hs.length ∧ qs.length = k + i ∧ qs = ps ++ (hs.take i).map Tp.hsP) (fun (w, i, qs) => [.keep, .keep, .keep, .set (.sl 2 w qs.length), .keep, .keep, .keep, .drop, .keep, .keep, .keep, .keep, .keep, .keep, .keep, .keep, .keep, .keep, .keep, .keep, .keep, .keep, .keep, .keep, .keep, .keep, .keep, .keep, .keep, .keep, .keep, .keep, .set (.int .i64 i), .drop, .drop, .drop, .drop, .drop, .drop, .drop, .drop, .drop, .drop, .drop, .drop, .keep])
    (fun (w, i, qs) => [.keep, .keep, .set ⟨addrOf w, Tp.plC qs, .row w 115 2 qs.length⟩]) (fun (w, i, qs) => hs.length - i) (w, 0, ps) ⟨Nat.zero_le _, hk, by simp⟩ ?_ (MemFits.eq (by simp only [autoM, hk])) ?_
  · simp only [hk]
    repeat (first | exact FitsSl.nil | refine FitsSl.any ?_ | refine FitsSl.cons (Fit1.int (by first | rfl | omega)) ?_ | refine FitsSl.cons (Fit1.bool rfl) ?_ | refine FitsSl.cons (Fit1.str rfl) ?_ | refine FitsSl.cons (Fit1.same (by intro h; cases h) (by with_reducible rfl)) ?_ | refine FitsSl.cons Fit1.nil_sl ?_ | refine FitsSl.cons (Fit1.hs rfl) ?_ | refine FitsSl.cons (Fit1.hp rfl rfl) ?_ | refine FitsSl.cons (Fit1.sl rfl) ?_ | refine FitsSl.cons (Fit1.ptr rfl rfl) ?_ | refine FitsSl.cons Fit1.raw ?_)
  (intro ⟨w, i, qs⟩ ⟨hi, hqn, hqs⟩; intro K hK; (conv=>whnf); refine hK _ _ ?_; clear hK K)
  dsimp only
  generalize hk2 : qs.length = k2 at *
  have hqcl := Tp.plC_len qs
  by_cases hlt : i < hs.length
  · have hx : hs[i]? = some hs[i] := List.getElem?_eq_getElem hlt
    obtain ⟨c0, c1⟩ := ht.h.get hx
    have hnx : ps ++ (hs.take (i + 1)).map Tp.hsP = qs ++ [Tp.hsP hs[i]] := by rw [List.take_add_one, hx, List.map_append, hqs, List.append_assoc]; rfl
    generalize hs[i] = x at *
    have hn2 := Tp.plC_next qs (x.at_, x.port)
    generalize hpc : Tp.plC qs = pc at *
    obtain ⟨at_, port⟩ := x
    (repeat' (first|(with_reducible first|(refine hK _ _ ?_;clear hK K)|(refine hA ?_;clear hA hB A B))|((with_reducible refine gO ?_);(first|((with_reducible refine z25 ?_);intro K hK;(conv=>whnf))|(with_reducible refine z0 ?_)))|((first|((with_reducible refine gV ?_);(((with_reducible refine NV.i64 ?s ?_);case s=>omega)))|((with_reducible refine gI ?_);(((with_reducible refine NIf.decY ?s ?_);case s=>omega)))|((with_reducible refine gN ?_);(with_reducible first|refine NN.cast ?_|refine NN.a5 ?_|refine NN.keep ?_))|((with_reducible refine gH ?_);((with_reducible refine NH.mk ?s ?_);case s=>(and_intros<;>first|with_reducible rfl|((with_reducible refine gOnes ?_);rfl)|((with_reducible refine gLen ?_);rfl)|omega)))|(with_reducible refine NLd.of (by with_reducible assumption) ?_))<;>(conv=>whnf))|((with_reducible refine gX ?_);(first|(with_reducible first|refine z3 ?_|refine z4 ?_|refine z5 ?_|refine z6 ?_)|((with_reducible refine z29 ?_);intro A B hA hB;(conv=>whnf))))|(with_reducible first|refine z1 ?_|refine z2 ?_|refine z9 ?_)|((intro _;skip)<;>(conv=>whnf))))
    all_goals
      rename_i v9
      refine st_round (v9, i + 1, qs ++ [(at_, port)]) ⟨hlt, (by rw [List.length_append, hk2, hqn] <;> rfl), hnx.symm⟩ (show hs.length - (i + 1) < hs.length - i by omega) ?_ (MemFits.pre 3 ?_)
      · simp only [List.length_append, hk2]
        repeat (first | exact FitsSl.nil | refine FitsSl.any ?_ | refine FitsSl.cons (Fit1.int (by first | rfl | omega)) ?_ | refine FitsSl.cons (Fit1.bool rfl) ?_ | refine FitsSl.cons (Fit1.str rfl) ?_ | refine FitsSl.cons (Fit1.same (by intro h; cases h) (by with_reducible rfl)) ?_ | refine FitsSl.cons Fit1.nil_sl ?_ | refine FitsSl.cons (Fit1.hs rfl) ?_ | refine FitsSl.cons (Fit1.hp rfl rfl) ?_ | refine FitsSl.cons (Fit1.sl rfl) ?_ | refine FitsSl.cons (Fit1.ptr rfl rfl) ?_ | refine FitsSl.cons Fit1.raw ?_)
      · simp only [autoM, List.take, List.length_append, hk2, hn2]
        rw [show k2 + [((at_, port) : Tp.Pl)].length = k2 + 1 from rfl]
        rfl
  have hkl : i = hs.length := by omega
  subst hkl
  rw [List.take_length] at hqs
  rw [hpl, ← hps0, ← hqs, hk2]
  (repeat' (first|(with_reducible first|(refine hK _ _ ?_;clear hK K)|(refine hB ?_;clear hA hB A B)|(refine hK _ ?_;clear hK K))|((with_reducible refine gO ?_);(first|((with_reducible refine z25 ?_);intro K hK;(conv=>whnf))|(with_reducible refine z0 ?_)))|((((with_reducible refine gI ?_);(((with_reducible refine NIf.decN ?s ?_);case s=>omega))))<;>(conv=>whnf))|((with_reducible refine gX ?_);(first|(with_reducible first|refine z3 ?_|refine z4 ?_|refine z7 ?_|refine z8 ?_)|((with_reducible refine z29 ?_);intro A B hA hB;(conv=>whnf))))|(with_reducible first|refine z1 ?_|refine z2 ?_|refine z10 ?_|refine z11 ?_|refine z19 ?_)|((with_reducible refine gR ?_);((refine z31 rfl ?_);intro K hK;(conv=>whnf)))))
  all_goals exact ⟨w, rfl, MemFits.pick [0, 2] (by decide) rfl⟩
theorem topo17_c (F : Heap) (t : Tp.T) (lv hv : Value) (ht : Tp.At F t lv hv) (hl : t.ls.length ≤ 1000) (hh : t.hs.length ≤ 1000) : NCall Tryz.prog 35 [.agg (Tp.cs t lv hv)] [hpB F] fun r m => r = .bool (Tp.right t) ∧ m = [hpB F] := by
  refine NCall.fits (K := fun r m => r = .bool (Tp.right t) ∧ ∃ F', F.le F' ∧ MemFits m [hpB F']) ?_ fun r m' ⟨h1, F', h2, h3⟩ => ⟨r, _, rfl, h3.trans (MemFits.less h2 []), h1, rfl⟩
  have hlo := ht.l.ok
  have hho := ht.h.ok
  have cp := (places17_c F t lv hv ht hl hh).mono (K' := fun r m => ∃ F' v, F.le F' ∧ Tp.PRow F' v (Tp.places t) ∧ SlOk v (Tp.places t).length ∧ r = .hs v (Tp.places t).length ∧ m = [hpB F']) fun r m ⟨F', v, h1, h2, h3, h4⟩ => ⟨F', v, h1, h2, h2.ok, h3, h4⟩
  have hpn := Tp.places_len t
  by_cases hb : Tp.bounds t = true
  rotate_left
  · have hb : Tp.bounds t = false := by simpa using hb
    rw [Tp.right_bounds hb]
    unfold Tp.bounds at hb
    rw [decide_eq_false_iff_not] at hb
    clear ht cp hpn
    obtain ⟨n, ls, hs⟩ := t
    unfold Tp.cs
    simp only at *
    generalize ls.length = a at *
    generalize hs.length = b at *
    refine ncall_of Tryz.func35 rfl (by decide) ?_
    (repeat' (first|(with_reducible first|(refine hK _ _ ?_;clear hK K)|(refine hA ?_;clear hA hB A B)|(refine hK _ ?_;clear hK K))|((with_reducible refine gO ?_);(first|((with_reducible first|refine z25 ?_|refine z26 ?_);intro K hK;(conv=>whnf))|(with_reducible refine z0 ?_)))|((first|((with_reducible refine gI ?_);(first|((with_reducible refine NIf.decY ?s ?_);case s=>first|assumption|omega)|((with_reducible refine NIf.decN ?s ?_);case s=>assumption)|((with_reducible refine NIf.yes ?s ?_);case s=>rfl)|(with_reducible refine NIf.dec (fun _=>?_) (fun _=>?_))))|((with_reducible refine gN ?_);(with_reducible refine NN.a5 ?_))|((with_reducible refine gH ?_);((with_reducible refine NH.mk ?s ?_);case s=>(and_intros<;>first|with_reducible rfl|omega))))<;>(conv=>whnf))|((with_reducible refine gX ?_);(first|(with_reducible first|refine z3 ?_|refine z4 ?_|refine z8 ?_)|((with_reducible refine z29 ?_);intro A B hA hB;(conv=>whnf))))|(with_reducible first|refine z1 ?_|refine z2 ?_|refine z12 ?_)|((with_reducible refine gR ?_);((refine z31 rfl ?_);intro K hK;(conv=>whnf)))|((with_reducible refine gF ?_);((refine z33 rfl ?_);intro K hK;(conv=>whnf)))|((intro _;skip)<;>(conv=>whnf))))
    all_goals exact ⟨rfl, F, F.le_refl, MemFits.pre 1 rfl⟩
  have hbd := hb
  unfold Tp.bounds at hbd
  rw [decide_eq_true_eq] at hbd
  have hgo : ∀ (q : Bool), t.ls.all Tp.lkOk = false → Tp.right t = false := fun _ h => Tp.right_lk h
  have hgp : (Tp.places t).all (Tp.plOk t) = false → Tp.right t = false := Tp.right_pl
  have hgd : ¬ (Tp.places t).Nodup → Tp.right t = false := Tp.right_dup
  have hyes := Tp.right_ok (t := t) hb
  generalize Tp.right t = R at *
  obtain ⟨n, ls, hs⟩ := t
  unfold Tp.cs at *
  simp only at *
  refine ncall_of Tryz.func35 rfl (by decide) ?_
  (repeat' (first|(with_reducible first|(refine hK _ _ ?_;clear hK K)|(refine hB ?_;clear hA hB A B)|(refine hK _ ?_;clear hK K))|((with_reducible refine gO ?_);(first|((with_reducible first|refine z25 ?_|refine z26 ?_);intro K hK;(conv=>whnf))|(with_reducible refine z0 ?_)))|((first|((with_reducible refine gI ?_);(((with_reducible refine NIf.decN ?s ?_);case s=>omega)))|((with_reducible refine gN ?_);(with_reducible refine NN.a5 ?_))|((with_reducible refine gH ?_);((with_reducible refine NH.mk ?s ?_);case s=>(and_intros<;>first|with_reducible rfl|omega))))<;>(conv=>whnf))|((with_reducible refine gX ?_);(first|(with_reducible first|refine z3 ?_|refine z4 ?_|refine z5 ?_|refine z6 ?_)|((with_reducible refine z29 ?_);intro A B hA hB;(conv=>whnf))))|(with_reducible first|refine z1 ?_|refine z2 ?_)|((with_reducible refine gF ?_);((refine z33 rfl ?_);intro K hK;(conv=>whnf)))|((intro _;skip)<;>(conv=>whnf))))
  refine st_auto (α := Nat) (fun i => i ≤ ls.length ∧ (ls.take i).all Tp.lkOk = true) (fun i => [.keep, .keep, .set (.bool false), .keep, .drop, .keep, .keep, .keep, .keep, .keep, .keep, .keep, .keep, .keep, .keep, .keep, .keep, .keep, .keep, .keep, .keep, .keep, .keep, .keep, .keep, .keep, .keep, .keep, .keep, .keep, .keep, .set (.int .i64 i), .drop, .drop, .drop, .drop, .drop, .drop, .drop, .drop, .drop, .drop, .drop, .drop, .drop, .drop, .drop, .drop, .drop, .drop, .drop, .drop, .drop, .drop, .drop, .drop, .drop, .drop, .keep, .keep, .keep, .keep, .keep, .keep, .keep, .keep, .keep, .keep, .keep, .keep, .keep, .keep, .keep, .keep, .keep, .keep, .keep, .keep, .keep, .keep, .keep, .keep, .keep, .keep, .keep, .keep, .keep, .keep, .keep, .keep, .keep, .keep, .keep, .keep, .keep, .keep, .keep, .keep, .keep]) (fun _ => []) (fun i => ls.length - i) 0 ⟨Nat.zero_le _, rfl⟩ ?_ (MemFits.eq rfl) ?_
  · repeat (first | exact FitsSl.nil | refine FitsSl.any ?_ | refine FitsSl.cons (Fit1.int (by first | rfl | omega)) ?_ | refine FitsSl.cons (Fit1.bool rfl) ?_ | refine FitsSl.cons (Fit1.str rfl) ?_ | refine FitsSl.cons (Fit1.same (by intro h; cases h) (by with_reducible rfl)) ?_ | refine FitsSl.cons Fit1.nil_sl ?_ | refine FitsSl.cons (Fit1.hs rfl) ?_ | refine FitsSl.cons (Fit1.hp rfl rfl) ?_ | refine FitsSl.cons (Fit1.sl rfl) ?_ | refine FitsSl.cons (Fit1.ptr rfl rfl) ?_ | refine FitsSl.cons Fit1.raw ?_)
  (intro i ⟨hi, hall⟩; intro K hK; (conv=>whnf); refine hK _ _ ?_; clear hK K)
  by_cases hlt : i < ls.length
  · have hx : ls[i]? = some ls[i] := List.getElem?_eq_getElem hlt
    obtain ⟨c0, c1, c2, c3, c4, c5⟩ := ht.l.get hx
    have hnx := Tp.all_next (q := Tp.lkOk) hx
    have hno := fun h => hgo true (Tp.all_not (q := Tp.lkOk) hx h)
    clear hgo hgp hgd hyes cp
    generalize ls[i] = x at *
    obtain ⟨a, pa, b, pb, least, most⟩ := x
    dsimp only at c0 c1 c2 c3 c4 c5
    by_cases hk : Tp.lkOk ⟨a, pa, b, pb, least, most⟩ = true
    · have hk2 := hk
      unfold Tp.lkOk at hk2
      rw [decide_eq_true_eq] at hk2
      simp only at hk2
      (repeat' (first|(with_reducible first|(refine hK _ _ ?_;clear hK K)|(refine hA ?_;clear hA hB A B)|(refine hB ?_;clear hA hB A B))|((with_reducible refine gO ?_);(first|((with_reducible first|refine z25 ?_|refine z26 ?_);intro K hK;(conv=>whnf))|(with_reducible refine z0 ?_)))|((first|((with_reducible refine gV ?_);(((with_reducible refine NV.i64 ?s ?_);case s=>omega)))|((with_reducible refine gI ?_);(first|((with_reducible refine NIf.decY ?s ?_);case s=>omega)|((with_reducible refine NIf.decN ?s ?_);case s=>omega)))|((with_reducible refine gN ?_);(with_reducible first|refine NN.cast ?_|refine NN.a5 ?_|refine NN.keep ?_))|((with_reducible refine gH ?_);((with_reducible refine NH.mk ?s ?_);case s=>(and_intros<;>first|with_reducible rfl|((with_reducible refine gOnes ?_);rfl)|((with_reducible refine gLen ?_);rfl)|omega)))|(with_reducible refine NLd.of (by with_reducible assumption) ?_))<;>(conv=>whnf))|((with_reducible refine gX ?_);(first|(with_reducible first|refine z3 ?_|refine z4 ?_|refine z5 ?_|refine z6 ?_)|((with_reducible refine z29 ?_);intro A B hA hB;(conv=>whnf))))|(with_reducible first|refine z1 ?_|refine z2 ?_|refine z9 ?_)|((intro _;skip)<;>(conv=>whnf))))
      refine st_round (i + 1) ⟨hlt, by rw [hnx, hall, hk]; rfl⟩ (by omega) ?_ (MemFits.pre 2 rfl)
      repeat (first | exact FitsSl.nil | refine FitsSl.any ?_ | refine FitsSl.cons (Fit1.int (by first | rfl | omega)) ?_ | refine FitsSl.cons (Fit1.bool rfl) ?_ | refine FitsSl.cons (Fit1.str rfl) ?_ | refine FitsSl.cons (Fit1.same (by intro h; cases h) (by with_reducible rfl)) ?_ | refine FitsSl.cons Fit1.nil_sl ?_ | refine FitsSl.cons (Fit1.hs rfl) ?_ | refine FitsSl.cons (Fit1.hp rfl rfl) ?_ | refine FitsSl.cons (Fit1.sl rfl) ?_ | refine FitsSl.cons (Fit1.ptr rfl rfl) ?_ | refine FitsSl.cons Fit1.raw ?_)
    · have hk : Tp.lkOk ⟨a, pa, b, pb, least, most⟩ = false := by simpa using hk
      rw [hno hk]
      have hk2 := hk
      unfold Tp.lkOk at hk2
      rw [decide_eq_false_iff_not] at hk2
      simp only at hk2
      (repeat' (first|(with_reducible first|(refine hK _ _ ?_;clear hK K)|(refine hA ?_;clear hA hB A B)|(refine hK _ ?_;clear hK K))|((with_reducible refine gO ?_);(first|((with_reducible first|refine z25 ?_|refine z26 ?_);intro K hK;(conv=>whnf))|(with_reducible refine z0 ?_)))|((first|((with_reducible refine gI ?_);(first|((with_reducible refine NIf.decY ?s ?_);case s=>first|assumption|omega)|((with_reducible refine NIf.decN ?s ?_);case s=>assumption)|((with_reducible refine NIf.yes ?s ?_);case s=>rfl)|(with_reducible refine NIf.dec (fun _=>?_) (fun _=>?_))))|((with_reducible refine gN ?_);(with_reducible first|refine NN.cast ?_|refine NN.a5 ?_|refine NN.keep ?_))|((with_reducible refine gH ?_);((with_reducible refine NH.mk ?s ?_);case s=>(and_intros<;>first|with_reducible rfl|((with_reducible refine gOnes ?_);rfl)|((with_reducible refine gLen ?_);rfl)|omega)))|(with_reducible refine NLd.of (by with_reducible assumption) ?_))<;>(conv=>whnf))|((with_reducible refine gX ?_);(first|(with_reducible first|refine z3 ?_|refine z4 ?_|refine z5 ?_|refine z6 ?_|refine z8 ?_)|((with_reducible refine z29 ?_);intro A B hA hB;(conv=>whnf))))|(with_reducible first|refine z1 ?_|refine z2 ?_|refine z12 ?_|refine z13 ?_|refine z20 ?_)|((with_reducible refine gR ?_);((refine z31 rfl ?_);intro K hK;(conv=>whnf)))|((intro _;skip)<;>(conv=>whnf))))
      all_goals first
        | exact ⟨rfl, F, F.le_refl, MemFits.pre 1 rfl⟩
        | (exfalso; omega)
  have hkl : i = ls.length := by omega
  subst hkl
  rw [List.take_length] at hall
  have hyes := hyes hall
  clear hgo
  clear hpn
  have hpln : (Tp.places ⟨n, ls, hs⟩).length ≤ 100 := by rw [Tp.places_len]; show 2 * ls.length + hs.length ≤ 100; omega
  have hplok : ∀ q, Tp.plOk ⟨n, ls, hs⟩ q = decide ((0 ≤ q.1 ∧ q.1 < n) ∧ 0 ≤ q.2 ∧ q.2 < 8) := fun q => rfl
  generalize Tp.places ⟨n, ls, hs⟩ = L at *
  generalize Tp.plOk ⟨n, ls, hs⟩ = ok at *
  (repeat' (first|(with_reducible first|(refine hK _ _ ?_;clear hK K)|(refine hB ?_;clear hA hB A B))|((with_reducible refine gO ?_);(first|((with_reducible refine z25 ?_);intro K hK;(conv=>whnf))|(with_reducible refine z0 ?_)))|((first|((with_reducible refine gI ?_);(((with_reducible refine NIf.decN ?s ?_);case s=>omega)))|((with_reducible refine gH ?_);((with_reducible refine NH.mk ?s ?_);case s=>(and_intros<;>first|with_reducible rfl|omega)))|((with_reducible refine gC ?_);((with_reducible refine NCall.isF 75 ?_);refine NCall.subw [0] _ _ (cp) rfl (by decide) rfl ?_; rintro _ _ ⟨F1, v1, hle1, hrow, hok1, rfl, rfl⟩; refine ⟨Nat.le_of_ble_eq_true rfl, _, rfl, ?_⟩)))<;>(conv=>whnf))|((with_reducible refine gMap ?_); refine NMap.make fun b => ?_; conv=>whnf)|((with_reducible refine gX ?_);(first|(with_reducible first|refine z3 ?_|refine z4 ?_|refine z5 ?_|refine z7 ?_)|((with_reducible refine z29 ?_);intro A B hA hB;(conv=>whnf))))|(with_reducible first|refine z1 ?_|refine z2 ?_|refine z10 ?_|refine z11 ?_|refine z19 ?_)))
  refine st_auto (α := Nat) (fun i => i ≤ L.length ∧ (L.take i).all ok = true ∧ (L.take i).Nodup) (fun i => [.keep, .keep, .set (.bool false), .keep, .keep, .keep, .keep, .drop, .keep, .keep, .keep, .keep, .keep, .keep, .keep, .keep, .keep, .keep, .keep, .keep, .keep, .keep, .keep, .keep, .keep, .keep, .keep, .keep, .keep, .keep, .keep, .keep, .keep, .keep, .keep, .keep, .keep, .keep, .keep, .keep, .keep, .keep, .keep, .keep, .keep, .keep, .keep, .keep, .keep, .keep, .keep, .keep, .keep, .keep, .keep, .keep, .keep, .keep, .keep, .keep, .keep, .keep, .set (.int .i64 i), .drop, .drop, .drop, .drop, .drop, .drop, .drop, .drop, .drop, .drop, .drop, .drop, .drop, .drop, .drop, .drop, .drop, .drop, .drop, .drop, .drop, .drop, .drop, .drop, .drop, .drop, .drop, .drop, .drop, .drop, .drop, .drop, .drop, .drop, .drop, .drop]) (fun i => [.keep, .keep, .set (mapB b (Tp.seenL (L.take i)))]) (fun i => L.length - i) 0 ⟨Nat.zero_le _, rfl, by simp⟩ ?_ ?_ ?_
  · repeat (first | exact FitsSl.nil | refine FitsSl.any ?_ | refine FitsSl.cons (Fit1.int (by first | rfl | omega)) ?_ | refine FitsSl.cons (Fit1.bool rfl) ?_ | refine FitsSl.cons (Fit1.str rfl) ?_ | refine FitsSl.cons (Fit1.same (by intro h; cases h) (by with_reducible rfl)) ?_ | refine FitsSl.cons Fit1.nil_sl ?_ | refine FitsSl.cons (Fit1.hs rfl) ?_ | refine FitsSl.cons (Fit1.hp rfl rfl) ?_ | refine FitsSl.cons (Fit1.sl rfl) ?_ | refine FitsSl.cons (Fit1.ptr rfl rfl) ?_ | refine FitsSl.cons Fit1.raw ?_)
  · exact MemFits.eq rfl
  (intro i ⟨hi, hal, hnd⟩; intro K hK; (conv=>whnf); refine hK _ _ ?_; clear hK K)
  by_cases hlt : i < L.length
  · have hx : L[i]? = some L[i] := List.getElem?_eq_getElem hlt
    obtain ⟨c0, c1⟩ := hrow.get hx
    have hnx := Tp.all_next (q := ok) hx
    have hno := fun h => hgp (Tp.all_not (q := ok) hx h)
    have hdn := fun h => hgd (Tp.dup_take hx h)
    have hdy := fun h => Tp.nodup_take hx hnd h
    have hsn := Tp.seen_next (L.take i) L[i]
    have htk : L.take (i + 1) = L.take i ++ [L[i]] := by rw [List.take_add_one, hx]; rfl
    have hlen : (L.take i).length = i := by rw [List.length_take]; omega
    have hokx := hplok L[i]
    clear hgp hgd hyes hplok
    generalize L[i] = x at *
    have hso := Tp.seen_ok (l := L.take i)
    have hko := Tp.plK_ok x
    by_cases hmem : x ∈ L.take i
    · obtain ⟨j, hj, hf, hat⟩ := Tp.seen_at hnd hmem
      rw [hdn hmem]
      clear hno hdn hdy hnx hsn htk
      generalize Tp.seenL (L.take i) = M at *
      obtain ⟨a, p⟩ := x
      dsimp only at c0 c1
      have hso2 := ok_set (i := j) (v := .int .i64 (1 + 1)) hso hko
      have hf2 := first_set (v := .int .i64 (1 + 1)) hf
      (repeat' (first|(with_reducible first|(refine hK _ _ ?_;clear hK K)|(refine hA ?_;clear hA hB A B)|(refine hK _ ?_;clear hK K))|((with_reducible refine gO ?_);(first|((with_reducible first|refine z25 ?_|refine z26 ?_);intro K hK;(conv=>whnf))|(with_reducible refine z0 ?_)))|((first|((with_reducible refine gV ?_);(((with_reducible refine NV.i64 ?s ?_);case s=>omega)))|((with_reducible refine gI ?_);(first|((with_reducible refine NIf.decY ?s ?_);case s=>first|assumption|omega)|((with_reducible refine NIf.decN ?s ?_);case s=>assumption)|((with_reducible refine NIf.yes ?s ?_);case s=>rfl)|(with_reducible refine NIf.dec (fun _=>?_) (fun _=>?_))))|((with_reducible refine gN ?_);(with_reducible first|refine NN.cast ?_|refine NN.a5 ?_|refine NN.keep ?_))|((with_reducible refine gH ?_);((with_reducible refine NH.mk ?s ?_);case s=>(and_intros<;>first|with_reducible rfl|((with_reducible refine gOnes ?_);rfl)|((with_reducible refine gLen ?_);rfl)|omega)))|(with_reducible refine NLd.of (by with_reducible assumption) ?_))<;>(conv=>whnf))|((with_reducible refine gNO ?_);(first|(refine z36 rfl (by kernel_rfl) ?_; intro K hK; (conv=>whnf))|(refine z38 rfl (by kernel_rfl) ?_)|(refine z39 rfl rfl (by kernel_rfl) (by intro h; cases h) ?_)))|((with_reducible refine gNE ?_);(first|(refine z40 ?_ ?_; (intro K hK; (conv=>whnf)))|exact z42))|((with_reducible refine pl_look_old 1 j (by kernel_rfl) (.own (j := 2) rfl) hso hf ?_); conv=>whnf)|((with_reducible refine pl_entry_old (j := 2) 1 j (by kernel_rfl) rfl hso hf ?_); conv=>whnf)|((with_reducible refine pl_store_old (j := 2) rfl hat ?_); conv=>whnf)|((with_reducible refine pl_look_old (1 + 1) j (by kernel_rfl) (.own (j := 2) rfl) hso2 hf2 ?_); conv=>whnf)|((with_reducible refine gX ?_);(first|(refine z35 (by kernel_rfl) _ rfl ?_)|(with_reducible first|refine z3 ?_|refine z4 ?_|refine z5 ?_|refine z6 ?_|refine z8 ?_)|((with_reducible refine z29 ?_);intro A B hA hB;(conv=>whnf))))|(with_reducible first|refine z1 ?_|refine z2 ?_|refine z12 ?_|refine z13 ?_|refine z20 ?_)|((with_reducible refine gR ?_);((refine z31 rfl ?_);intro K hK;(conv=>whnf)))|((intro _;skip)<;>(conv=>whnf))))
      all_goals exact ⟨rfl, F1, hle1, MemFits.pre 1 rfl⟩
    · have hfn := Tp.seen_no hmem
      have hseen : (Tp.seenL (L.take i)).length = i := by unfold Tp.seenL; rw [List.length_map]; exact hlen
      rw [← htk] at hsn
      have hnd2 := hdy hmem
      clear hdn htk hdy
      generalize Tp.seenL (L.take i) = M at *
      obtain ⟨a, p⟩ := x
      dsimp only at c0 c1
      have hso2 := ok_next (v := .int .i64 (0 + 1)) hso hko
      have hf2 := first_last (v := .int .i64 (0 + 1)) hfn
      have hso0 := ok_next (v := .int .i64 0) hso hko
      have hf0 := first_last (v := .int .i64 0) hfn
      by_cases hok : ok (a, p) = true
      · have hok2 := hok
        rw [hokx, decide_eq_true_eq] at hok2
        dsimp only at hok2
        (repeat' (first|(with_reducible first|(refine hK _ _ ?_;clear hK K)|(refine hA ?_;clear hA hB A B)|(refine hB ?_;clear hA hB A B)|(refine hK _ ?_;clear hK K))|((with_reducible refine gO ?_);(first|((with_reducible first|refine z25 ?_|refine z26 ?_);intro K hK;(conv=>whnf))|(with_reducible refine z0 ?_)))|((first|((with_reducible refine gV ?_);(((with_reducible refine NV.i64 ?s ?_);case s=>omega)))|((with_reducible refine gI ?_);(first|((with_reducible refine NIf.decY ?s ?_);case s=>omega)|((with_reducible refine NIf.decN ?s ?_);case s=>omega)))|((with_reducible refine gN ?_);(with_reducible first|refine NN.cast ?_|refine NN.a5 ?_|refine NN.keep ?_))|((with_reducible refine gH ?_);((with_reducible refine NH.mk ?s ?_);case s=>(and_intros<;>first|with_reducible rfl|((with_reducible refine gOnes ?_);rfl)|((with_reducible refine gLen ?_);rfl)|omega)))|(with_reducible refine NLd.of (by with_reducible assumption) ?_))<;>(conv=>whnf))|((with_reducible refine gNO ?_);(first|(refine z36 rfl (by kernel_rfl) ?_; intro K hK; (conv=>whnf))|(refine z38 rfl (by kernel_rfl) ?_)|(refine z39 rfl rfl (by kernel_rfl) (by intro h; cases h) ?_)))|((with_reducible refine gNE ?_);(first|(refine z40 ?_ ?_; (intro K hK; (conv=>whnf)))|exact z42))|((with_reducible refine pl_look_new (by kernel_rfl) (.own (j := 2) rfl) hso hfn ?_); conv=>whnf)|((with_reducible refine pl_entry_new (j := 2) (by kernel_rfl) rfl hso hfn ?_); conv=>whnf)|((with_reducible refine pl_store_new (j := 2) rfl ?_); conv=>whnf)|((with_reducible refine pl_look_old (0 + 1) M.length (by kernel_rfl) (.own (j := 2) rfl) hso2 hf2 ?_); conv=>whnf)|((with_reducible refine pl_look_old 0 M.length (by kernel_rfl) (.own (j := 2) rfl) hso0 hf0 ?_); conv=>whnf)|((with_reducible refine gX ?_);(first|(refine z35 (by kernel_rfl) _ rfl ?_)|(with_reducible first|refine z3 ?_|refine z4 ?_|refine z5 ?_|refine z6 ?_)|((with_reducible refine z29 ?_);intro A B hA hB;(conv=>whnf))))|(with_reducible first|refine z1 ?_|refine z2 ?_|refine z9 ?_)|((intro _;skip)<;>(conv=>whnf))))
        all_goals
          refine st_round (i + 1) ⟨hlt, by rw [hnx, hal, hok]; rfl, hnd2⟩ (by omega) ?_ (MemFits.pre 3 ?_)
          · repeat (first | exact FitsSl.nil | refine FitsSl.any ?_ | refine FitsSl.cons (Fit1.int (by first | rfl | omega)) ?_ | refine FitsSl.cons (Fit1.bool rfl) ?_ | refine FitsSl.cons (Fit1.str rfl) ?_ | refine FitsSl.cons (Fit1.same (by intro h; cases h) (by with_reducible rfl)) ?_ | refine FitsSl.cons Fit1.nil_sl ?_ | refine FitsSl.cons (Fit1.hs rfl) ?_ | refine FitsSl.cons (Fit1.hp rfl rfl) ?_ | refine FitsSl.cons (Fit1.sl rfl) ?_ | refine FitsSl.cons (Fit1.ptr rfl rfl) ?_ | refine FitsSl.cons Fit1.raw ?_)
          · rw [hsn]; rfl
      · have hok : ok (a, p) = false := by simpa using hok
        rw [hno hok]
        have hok2 := hok
        rw [hokx, decide_eq_false_iff_not] at hok2
        dsimp only at hok2
        (repeat' (first|(with_reducible first|(refine hK _ _ ?_;clear hK K)|(refine hA ?_;clear hA hB A B)|(refine hK _ ?_;clear hK K))|((with_reducible refine gO ?_);(first|((with_reducible first|refine z25 ?_|refine z26 ?_);intro K hK;(conv=>whnf))|(with_reducible refine z0 ?_)))|((first|((with_reducible refine gV ?_);(((with_reducible refine NV.i64 ?s ?_);case s=>omega)))|((with_reducible refine gI ?_);(first|((with_reducible refine NIf.decY ?s ?_);case s=>first|assumption|omega)|((with_reducible refine NIf.decN ?s ?_);case s=>assumption)|((with_reducible refine NIf.yes ?s ?_);case s=>rfl)|(with_reducible refine NIf.dec (fun _=>?_) (fun _=>?_))))|((with_reducible refine gN ?_);(with_reducible first|refine NN.cast ?_|refine NN.a5 ?_|refine NN.keep ?_))|((with_reducible refine gH ?_);((with_reducible refine NH.mk ?s ?_);case s=>(and_intros<;>first|with_reducible rfl|((with_reducible refine gOnes ?_);rfl)|((with_reducible refine gLen ?_);rfl)|omega)))|(with_reducible refine NLd.of (by with_reducible assumption) ?_))<;>(conv=>whnf))|((with_reducible refine gNO ?_);(first|(refine z36 rfl (by kernel_rfl) ?_; intro K hK; (conv=>whnf))|(refine z38 rfl (by kernel_rfl) ?_)|(refine z39 rfl rfl (by kernel_rfl) (by intro h; cases h) ?_)))|((with_reducible refine gNE ?_);(first|(refine z40 ?_ ?_; (intro K hK; (conv=>whnf)))|exact z42))|((with_reducible refine pl_look_new (by kernel_rfl) (.own (j := 2) rfl) hso hfn ?_); conv=>whnf)|((with_reducible refine pl_entry_new (j := 2) (by kernel_rfl) rfl hso hfn ?_); conv=>whnf)|((with_reducible refine pl_store_new (j := 2) rfl ?_); conv=>whnf)|((with_reducible refine pl_look_old 0 M.length (by kernel_rfl) (.own (j := 2) rfl) hso0 hf0 ?_); conv=>whnf)|((with_reducible refine gX ?_);(first|(refine z35 (by kernel_rfl) _ rfl ?_)|(with_reducible first|refine z3 ?_|refine z4 ?_|refine z5 ?_|refine z6 ?_|refine z8 ?_)|((with_reducible refine z29 ?_);intro A B hA hB;(conv=>whnf))))|(with_reducible first|refine z1 ?_|refine z2 ?_|refine z12 ?_|refine z13 ?_|refine z20 ?_)|((with_reducible refine gR ?_);((refine z31 rfl ?_);intro K hK;(conv=>whnf)))|((intro _;skip)<;>(conv=>whnf))))
        all_goals first
          | exact ⟨rfl, F1, hle1, MemFits.pre 1 rfl⟩
          | (exfalso; omega)
  · have hil : i = L.length := by omega
    subst hil
    rw [List.take_length] at hal hnd
    rw [hyes hal hnd]
    (repeat' (first|(with_reducible first|(refine hK _ _ ?_;clear hK K)|(refine hB ?_;clear hA hB A B)|(refine hK _ ?_;clear hK K))|((with_reducible refine gO ?_);(first|((with_reducible refine z25 ?_);intro K hK;(conv=>whnf))|(with_reducible refine z0 ?_)))|((((with_reducible refine gI ?_);(((with_reducible refine NIf.decN ?s ?_);case s=>omega))))<;>(conv=>whnf))|((with_reducible refine gX ?_);(first|(with_reducible first|refine z3 ?_|refine z4 ?_|refine z7 ?_|refine z8 ?_)|((with_reducible refine z29 ?_);intro A B hA hB;(conv=>whnf))))|(with_reducible first|refine z1 ?_|refine z2 ?_|refine z10 ?_|refine z11 ?_|refine z19 ?_)|((with_reducible refine gR ?_);((refine z31 rfl ?_);intro K hK;(conv=>whnf)))))
    all_goals exact ⟨rfl, F1, hle1, MemFits.pre 1 rfl⟩
end Go.Proofs.YtpkjnmddembkjaaGreatDoor
