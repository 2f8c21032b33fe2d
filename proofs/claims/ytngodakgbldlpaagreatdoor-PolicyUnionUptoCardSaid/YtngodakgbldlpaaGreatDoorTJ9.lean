/-
  Numerals and joined texts: the library's contracts, over what is read alone; Maps: what their operations do to maps of one's own; slices.SortFunc over packets.
-/
import Derived.Test.YtngodakgbldlpaaGreatDoorTJ1
import Derived.Lib.Join
import Derived.Test.YtngodakgbldlpaaGreatDoorTSxC
import Derived.Maps.RangeRun
import Derived.Test.YtngodakgbldlpaaGreatDoorTJ3
import Derived.Shelf.SlSortCmp.NoneTotal
namespace Go.Proofs.YtngodakgbldlpaaGreatDoor
open Go.Sx
/-- The library's table of powers of ten. -/
def TabF (F : Heap) : Prop := ∃ t fr, F.o 0 (.cells (Lib.pow10Tab.map fun z => Value.int .u64 z).toArray t fr)
theorem TabF.mono {F G : Heap} (h : F.le G) (hF : TabF F) : TabF G := by
  obtain ⟨t, fr, h1⟩ := hF
  exact ⟨t, fr, h.o _ _ h1⟩
theorem MemOk.heapO {F : Heap} {w : World} (h : MemOk [hpB F] w) {b : Nat} {o : Obj} (ho : F.o b o) : w.heap[b]? = some o :=
  (h.holds (hpB F) (by simp)).2.2 b o ho
theorem tab_is {F : Heap} (hF : TabF F) {w : World} (h : MemOk [hpB F] w) : Lib.TabIs Tryz.prog w "internal/strconv.uint64pow10" .u64 Lib.pow10Tab := by
  obtain ⟨t, fr, h1⟩ := hF
  have h2 := MemOk.heapO h h1
  have hg : Tryz.prog.globalNamed "internal/strconv.uint64pow10" = some 0 := by kernel_rfl
  unfold Lib.TabIs World.var?
  rw [hg]
  simp only [Option.bind_some, h2]
theorem itoa_c (F : Heap) (hF : TabF F) (n : Int) (hn : -9223372036854775808 ≤ n ∧ n ≤ 9223372036854775807) : NCall Tryz.prog 55 [.int .i64 n] [hpB F] fun r m => r = .str (Lib.itoa n) ∧ m = [hpB F] := by
  refine ncall_below (Go.Sx.enters_of Tryz.func55 rfl (by decide)) fun w hw => ?_
  refine (Tryz.strconv_Itoa n hn.1 hn.2 w (tab_is hF hw)).mono fun e w' ⟨h1, k, os, h2⟩ => ?_
  subst h2
  refine ⟨h1, rfl, rfl, rfl, by simp [Sort.grow, World.drewN], fun b hb => ?_⟩
  simp [Sort.grow, World.drewN, Array.getElem?_append_left hb]
/-- A text's cell. -/
def strV (x : List UInt8) : List Value := [.string ⟨x.toArray⟩]
theorem join_c (F : Heap) (v : Value) (l : List (List UInt8)) (sep : List UInt8) (hv : RowF F 1 (fun x vs => vs = strV x) v l) (hl : (Lib.join l sep).length ≤ 140737488355328) (hn : l.length ≤ 140737488355328) :
    NCall Tryz.prog 56 [.hs v l.length, .str sep] [hpB F] fun r m => r = .str (Lib.join l sep) ∧ m = [hpB F] := by
  have hen : ∀ (us : Array Value) (w : World), (callFunc 56 us).run Tryz.prog w = .ok (.enter 56 us) w := Go.Sx.enters_of Tryz.func56 rfl (by decide)
  obtain ⟨⟨A, cap, rfl, hcap, hA⟩, hat⟩ := hv
  cases l with
  | nil =>
    refine ncall_below hen fun w hw => ?_
    refine (Tryz.strings_Join_none A cap ⟨sep.toArray⟩ w).mono fun e w' ⟨h1, h2⟩ => ?_
    subst h2
    exact ⟨h1, rfl, rfl, rfl, Nat.le_refl _, fun _ _ => rfl⟩
  | cons x l =>
    refine ncall_below hen fun w hw => ?_
    have hc : ∀ a u, F.c a u → a.block < w.heap.size ∧ w.cell? a = some u := (hw.holds (hpB F) (by simp)).2.1
    cases A with
    | none => have := hA rfl; simp at hcap; omega
    | some a =>
      obtain ⟨vs, rfl, _, h0⟩ := hat 0 x rfl
      have h00 := hc _ _ h0.1
      have hsp : a.spot = none := by
        have h1 := World.cell?_spot h00.2
        simpa [addrOf, Addr.add] using h1
      obtain ⟨bk, o, sp⟩ := a
      dsimp only at hsp
      subst hsp
      have hm : ((x :: l).map fun y => (⟨y.toArray⟩ : ByteArray)).map (·.data.toList) = x :: l := by simp [Function.comp_def]
      have hj := Tryz.strings_Join bk o cap ((x :: l).map fun y => ⟨y.toArray⟩) ⟨sep.toArray⟩ w (fun j y hy => by
        rw [List.getElem?_map] at hy
        cases hx : (x :: l)[j]? with
        | none => rw [hx] at hy; cases hy
        | some z =>
          rw [hx] at hy
          injection hy with hy
          subst hy
          obtain ⟨vs, rfl, _, h1⟩ := hat j z hx
          have := (hc _ _ h1.1).2
          by_cases hj0 : j = 0
          · subst hj0; simpa [addrOf, Addr.add] using this
          · simpa [addrOf, Addr.add, hj0] using this) (by have := h00.1; rw [block_of_add] at this; exact this) (by simpa using hn) (by simpa using hcap) (by rw [hm]; simpa using hl)
      rw [hm] at hj
      simp only [List.length_map] at hj
      refine hj.mono fun e w' ⟨h1, h2⟩ => ?_
      exact ⟨by simpa [AV.den] using h1, h2.os, h2.tape, h2.output, h2.size, h2.block⟩
def strAV (l : List (List UInt8)) : List AV := l.map .str
theorem strAV_den (l : List (List UInt8)) : denL (strAV l) = l.flatMap strV := by
  induction l with
  | nil => rfl
  | cons x l ih => simp only [strAV, List.map_cons, List.flatMap_cons, strV, denL, AV.den] at *; rw [ih]; rfl
theorem strAV_len (l : List (List UInt8)) : (strAV l).length = l.length := by simp [strAV]
/-- Joined out of a row of one's own. -/
theorem join_own (F : Heap) (v : Value) (l : List (List UInt8)) (sep : List UInt8) (t : TypeId) (m : List Blk) (hm : MemFits m [hpB F, ⟨addrOf v, strAV l, .row v t 1 l.length⟩]) (hl : (Lib.join l sep).length ≤ 140737488355328) (hn : l.length ≤ 140737488355328) (i : Nat) :
    NCall Tryz.prog 56 [.sl i v l.length, .str sep] m fun r m' => r = .str (Lib.join l sep) ∧ m' = m :=
  NCall.frozen (args' := [.hs v l.length, .str sep]) strV (join_c noHeap (.slice none 0 0) [] [] RowF.nil (by decide) (by decide)) rfl hm rfl (strAV_den l) (fun _ _ => rfl) fun G _ hr =>
    (join_c G v l sep hr hl hn).mono fun _ _ h => ⟨h.1, rfl⟩
end Go.Proofs.YtngodakgbldlpaaGreatDoor
namespace Go.Sx
open Go.RowKit
open Go.ChangeMaps (setBlock)
set_option linter.unusedVariables false
set_option maxRecDepth 20000
/-- A map, as its keys and values lie in it. -/
def mapL (L : List (Value × Value)) : List MapEntry := L.mapIdx fun i p => ⟨p.1, p.2, i⟩
def mapObj (L : List (Value × Value)) : Obj := .map (mapL L).toArray L.length
def mapB (b : Nat) (L : List (Value × Value)) : Blk := ⟨⟨b, 0, none⟩, [], .obj (mapObj L)⟩
/-- What goes through a map. -/
def itB (c b n : Nat) (seen : Array Nat) : Blk := ⟨⟨c, 0, none⟩, [], .obj (.mapIter (some b) n seen n)⟩
theorem mapL_get (L : List (Value × Value)) (i : Nat) : (mapL L)[i]? = (L[i]?).map fun p => ⟨p.1, p.2, i⟩ := by simp [mapL]
section
variable {P : Program}
theorem setBlock_heap {w : World} {b k : Nat} {o o' : Obj} (h : w.heap[b]? = some o) : (setBlock w b o').heap[k]? = if k = b then some o' else w.heap[k]? := by
  have hlt := (Array.getElem?_eq_some_iff.1 h).1
  simp only [setBlock]
  rw [Array.getElem?_setIfInBounds]
  by_cases e : b = k
  · subst e; simp [hlt]
  · rw [if_neg e, if_neg (fun e' => e e'.symm)]
theorem MemOk.obj {m : List Blk} {w : World} (hm : MemOk m w) {j b : Nat} {o : Obj} (hj : m[j]? = some ⟨⟨b, 0, none⟩, [], .obj o⟩) : w.heap[b]? = some o :=
  (hm.holds _ (List.mem_of_getElem? hj)).2.2.2
theorem put_mem {m : List Blk} {w w1 : World} {j b : Nat} {o : Obj} (o' : Obj) (hm : MemOk m w) (hj : m[j]? = some ⟨⟨b, 0, none⟩, [], .obj o⟩) (hw1 : w1 = w ∨ w1 = w.drew) :
    MemOk (m.set j ⟨⟨b, 0, none⟩, [], .obj o'⟩) (setBlock w1 b o') ∧ Fr (wrs m) w (setBlock w1 b o') ∧ Fresh (own m) w (m.set j ⟨⟨b, 0, none⟩, [], .obj o'⟩) := by
  have hb := hm.obj hj
  have hh : w1.heap = w.heap := by rcases hw1 with rfl | rfl <;> rfl
  have hb1 : w1.heap[b]? = some o := by rw [hh]; exact hb
  have hmem := List.mem_of_getElem? hj
  have hsz : (setBlock w1 b o').heap.size = w.heap.size := by simp [setBlock, hh]
  have hoth : ∀ k, k ≠ b → (setBlock w1 b o').heap[k]? = w.heap[k]? := fun k hk => by rw [setBlock_heap hb1, if_neg hk, hh]
  refine ⟨?_, ?_, ?_⟩
  · refine hm.set (Nat.le_of_eq hsz.symm) hj rfl (fun c hc hlt => hoth c fun e => hc (by rw [e]; rfl)) ⟨rfl, rfl, rfl, ?_⟩ rfl (.inr (.inl rfl))
    rw [setBlock_heap hb1, if_pos rfl]
  · refine ⟨?_, ?_, ?_, Nat.le_of_eq hsz.symm, fun k hk hS => hoth k fun e => hS ⟨_, hmem, rfl, by rw [e]; rfl⟩⟩
    all_goals rcases hw1 with rfl | rfl <;> rfl
  · exact Fresh.set (Fresh.self _ _) rfl fun c hc => .inl ⟨_, hmem, rfl, hc⟩
/-- An operation that turns an object of one's own into another one. -/
theorem gMap {s : Sem Value} {m : List Blk} {K : AV → List Blk → Prop} (h : NMap P s m K) : NMap P s m K := h
theorem NMap.put {s : Sem Value} {m : List Blk} {K : AV → List Blk → Prop} {j b : Nat} {o o' : Obj} {r : AV} (hj : m[j]? = some ⟨⟨b, 0, none⟩, [], .obj o⟩)
    (h : ∀ w, w.heap[b]? = some o → MemOk m w → ∃ w1, (w1 = w ∨ w1 = w.drew) ∧ s.run P w = .ok r.den (setBlock w1 b o')) (hK : K r (m.set j ⟨⟨b, 0, none⟩, [], .obj o'⟩)) : NMap P s m K := by
  rw [NMap_iff]
  intro w hm
  obtain ⟨w1, hw1, hrun⟩ := h w (hm.obj hj) hm
  obtain ⟨h1, h2, h3⟩ := put_mem o' hm hj hw1
  exact ⟨r, _, _, hrun, hK, h1, h2, h3⟩
/-- An operation that only reads. -/
theorem NMap.read {s : Sem Value} {m : List Blk} {K : AV → List Blk → Prop} {r : AV} (h : ∀ w, MemOk m w → s.run P w = .ok r.den w) (hK : K r m) : NMap P s m K := by
  rw [NMap_iff]
  exact fun w hm => ⟨r, m, w, h w hm, hK, hm, Fr.refl _ _, Fresh.self _ _⟩
/-- An operation that makes an object. -/
theorem NMap.new {s : Sem Value} {m : List Blk} {K : AV → List Blk → Prop} {o : Obj} {r : Nat → AV} (h : ∀ w, MemOk m w → s.run P w = .ok (r w.heap.size).den (w.alloc o)) (hK : ∀ b, K (r b) (m ++ [⟨⟨b, 0, none⟩, [], .obj o⟩])) : NMap P s m K := by
  rw [NMap_iff]
  intro w hm
  refine ⟨_, _, _, h w hm, hK _, ?_, Fr.alloc _ _ _, ?_⟩
  · refine hm.push (by simp) (fun k hk b hb => Below.heap_alloc _ _ _ ((hm.holds k hk).lt hb)) ?_ (fun b hb => ?_)
    · exact ⟨rfl, rfl, rfl, heap_alloc_new w _⟩
    · simp [Blk.foot, Blk.bn] at hb; omega
  · refine (Fresh.self _ _).push (rfl) fun b hb => ?_
    simp [Blk.bn] at hb
    omega
/-! ### Keys -/
/-- A type's keys: they can be told apart. -/
structure KeyT (P : Program) (kt : TypeId) (ok : Value → Prop) : Prop where
  check : ∀ e x w, ok x → (Instr.checkKey e 10000 kt x).run P w = .ok () w
  under : ∃ td, P.underlying kt = some td ∧ ∀ x y, ok x → ok y → Instr.sameNow td x y = none ∨ (x = y ∧ Instr.sameNow td x y = some true) ∨ (x ≠ y ∧ Instr.sameNow td x y = some false)
  eq : ∀ x y w, ok x → ok y → (x = y ∧ (Op.equal kt x y).run P w = .ok true w) ∨ (x ≠ y ∧ (Op.equal kt x y).run P w = .ok false w)
  bits : ∀ x, ok x → Instr.sameBits 10000 x x = true
/-- Where a key lies first. -/
def FirstIs (L : List (Value × Value)) (k : Value) : Option (Nat × Value) → Prop
  | none => ∀ q ∈ L, q.1 ≠ k
  | some (i, v) => L[i]? = some (k, v) ∧ ∀ j q, j < i → L[j]? = some q → q.1 ≠ k
def FirstE (L : List MapEntry) (k : Value) : Option (Nat × Value) → Prop
  | none => ∀ q ∈ L, q.key ≠ k
  | some (i, v) => (∃ q, L[i]? = some q ∧ q.key = k ∧ q.val = v) ∧ ∀ (j : Nat) (q : MapEntry), j < i → L[j]? = some q → q.key ≠ k
theorem FirstIs.e {L : List (Value × Value)} {k : Value} {r : Option (Nat × Value)} (h : FirstIs L k r) : FirstE (mapL L) k r := by
  cases r with
  | none =>
    intro q hq
    obtain ⟨i, hi⟩ := List.getElem?_of_mem hq
    rw [mapL_get] at hi
    cases hL : L[i]? with
    | none => rw [hL] at hi; cases hi
    | some p =>
      rw [hL] at hi
      injection hi with hi
      subst hi
      exact h p (List.mem_of_getElem? hL)
  | some x =>
    obtain ⟨i, v⟩ := x
    refine ⟨⟨⟨k, v, i⟩, by rw [mapL_get, h.1]; rfl, rfl, rfl⟩, fun j q hj hq => ?_⟩
    rw [mapL_get] at hq
    cases hL : L[j]? with
    | none => rw [hL] at hq; cases hq
    | some p =>
      rw [hL] at hq
      injection hq with hq
      subst hq
      exact h.2 j p hj hL
theorem FirstE.tail {e : MapEntry} {L : List MapEntry} {k : Value} (hne : e.key ≠ k) {r : Option (Nat × Value)} (h : FirstE (e :: L) k r) : ∃ r', FirstE L k r' ∧ r = r'.map fun p => (p.1 + 1, p.2) := by
  cases r with
  | none => exact ⟨none, fun q hq => h q (List.mem_cons_of_mem _ hq), rfl⟩
  | some x =>
    obtain ⟨i, v⟩ := x
    obtain ⟨⟨q, h1, h2, h3⟩, h4⟩ := h
    cases i with
    | zero => simp at h1; subst h1; exact absurd h2 hne
    | succ i => exact ⟨some (i, v), ⟨⟨q, by simpa using h1, h2, h3⟩, fun j p hj hp => h4 (j + 1) p (by omega) (by simpa using hp)⟩, rfl⟩
theorem FirstE.head {e : MapEntry} {L : List MapEntry} {r : Option (Nat × Value)} (h : FirstE (e :: L) e.key r) : r = some (0, e.val) := by
  cases r with
  | none => exact absurd rfl (h e (by simp))
  | some x =>
    obtain ⟨i, v⟩ := x
    obtain ⟨⟨q, h1, h2, h3⟩, h4⟩ := h
    cases i with
    | zero => simp at h1; subst h1; rw [h3]
    | succ i => exact absurd rfl (h4 0 e (by omega) rfl)
theorem findAsking_run {kt : TypeId} {ok : Value → Prop} (hK : KeyT P kt ok) {k : Value} (hk : ok k) (w : World) : ∀ (L : List MapEntry) (i : Nat) (r : Option (Nat × Value)), (∀ q ∈ L, ok q.key) → FirstE L k r →
    (Instr.findAsking kt k L i).run P w = .ok (r.map fun p => (p.1 + i, p.2)) w
  | [], i, r, _, h => by
    cases r with
    | none => rfl
    | some x => obtain ⟨⟨q, h1, _⟩, _⟩ := h; simp at h1
  | e :: L, i, r, hL, h => by
    unfold Instr.findAsking
    rw [Sem.run_bind]
    rcases hK.eq k e.key w hk (hL e (by simp)) with ⟨h1, h2⟩ | ⟨h1, h2⟩
    · subst h1
      rw [h2, h.head]
      simp
    · obtain ⟨r', h3, rfl⟩ := h.tail (Ne.symm h1)
      rw [h2]
      simp only [Result.andThen_ok, Bool.false_eq_true, if_false]
      rw [findAsking_run hK hk w L (i + 1) r' (fun q hq => hL q (List.mem_cons_of_mem _ hq)) h3]
      cases r' with
      | none => rfl
      | some p => simp only [Option.map_some]; rw [show p.1 + (i + 1) = p.1 + 1 + i by omega]
theorem findNow_run {td : TypeDesc} {ok : Value → Prop} (hT : ∀ x y, ok x → ok y → Instr.sameNow td x y = none ∨ (x = y ∧ Instr.sameNow td x y = some true) ∨ (x ≠ y ∧ Instr.sameNow td x y = some false)) {k : Value} (hk : ok k) : ∀ (L : List MapEntry) (i : Nat) (r : Option (Nat × Value)), (∀ q ∈ L, ok q.key) → FirstE L k r →
    Instr.findNow td k L i = none ∨ Instr.findNow td k L i = some (r.map fun p => (p.1 + i, p.2))
  | [], i, r, _, h => by
    cases r with
    | none => exact .inr rfl
    | some x => obtain ⟨⟨q, h1, _⟩, _⟩ := h; simp at h1
  | e :: L, i, r, hL, h => by
    unfold Instr.findNow
    rcases hT k e.key hk (hL e (by simp)) with h1 | ⟨h1, h2⟩ | ⟨h1, h2⟩
    · rw [h1]; exact .inl rfl
    · rw [h2]
      subst h1
      rw [h.head]
      exact .inr (by simp)
    · rw [h2]
      obtain ⟨r', h3, rfl⟩ := h.tail (Ne.symm h1)
      rcases findNow_run hT hk L (i + 1) r' (fun q hq => hL q (List.mem_cons_of_mem _ hq)) h3 with h4 | h4
      · exact .inl h4
      · refine .inr ?_
        simp only
        rw [h4]
        cases r' with
        | none => rfl
        | some p => simp only [Option.map_some]; rw [show p.1 + (i + 1) = p.1 + 1 + i by omega]
theorem findKey_run {kt : TypeId} {ok : Value → Prop} (hK : KeyT P kt ok) {L : List (Value × Value)} {k : Value} {r : Option (Nat × Value)} (hL : ∀ q ∈ L, ok q.1) (hk : ok k) (h : FirstIs L k r) (w : World) :
    (Instr.findKey kt k (mapL L)).run P w = .ok r w := by
  have hL' : ∀ q ∈ mapL L, ok q.key := fun q hq => by
    obtain ⟨i, hi⟩ := List.getElem?_of_mem hq
    rw [mapL_get] at hi
    cases hLi : L[i]? with
    | none => rw [hLi] at hi; cases hi
    | some p =>
      rw [hLi] at hi
      injection hi with hi
      subst hi
      exact hL p (List.mem_of_getElem? hLi)
  obtain ⟨td, hu, hT⟩ := hK.under
  have e : r.map (fun p => (p.1 + 0, p.2)) = r := by cases r <;> rfl
  unfold Instr.findKey
  rw [Sem.run_bind, run_underlying hu, Result.andThen_ok]
  rcases findNow_run hT hk (mapL L) 0 r hL' h.e with h1 | h1
  · rw [h1]
    have := findAsking_run hK hk w (mapL L) 0 r hL' h.e
    rw [e] at this
    exact this
  · rw [h1, e]
    rfl
/-! ### Operations -/
theorem NMap.make {t : TypeId} {m : List Blk} {K : AV → List Blk → Prop} (h : ∀ b, appK m (mapB b []) (K (.raw (.map (some b))))) : NMap P (Instr.makeMap t none) m K :=
  NMap.new (o := mapObj []) (r := fun b => .raw (.map (some b))) (fun w _ => rfl) fun b => appK_spec (h b)
theorem run_getObj {w : World} {b : Nat} {es : Array MapEntry} {c : Nat} (h : w.heap[b]? = some (.map es c)) : (getObj b).run P w = .ok (.map es c) w := by simp [getObj, Sem.run, h]
theorem run_setObj {w : World} {b : Nat} {es es' : Array MapEntry} {c c' : Nat} (h : w.heap[b]? = some (.map es c)) : (setObj b (.map es' c')).run P w = .ok () (setBlock w b (.map es' c')) := by
  simp [setObj, Sem.run, h, setBlock]
theorem mapL_push (L : List (Value × Value)) (k v : Value) : (mapL L).toArray.push ⟨k, v, L.length⟩ = (mapL (L ++ [(k, v)])).toArray := by
  simp [mapL, List.mapIdx_append]
theorem NMap.upd_new {t kt et : TypeId} {ok : Value → Prop} {m : List Blk} {K : AV → List Blk → Prop} {j b : Nat} {L : List (Value × Value)} {k v : Value} (hu : P.underlying t = some (.map kt et)) (hT : KeyT P kt ok) (hj : m[j]? = some (mapB b L)) (hL : ∀ q ∈ L, ok q.1) (hk : ok k)
    (hno : ∀ q ∈ L, q.1 ≠ k) (hK : setBlkK m j (mapB b (L ++ [(k, v)])) (K (.raw undef))) : NMap P (do Instr.mapUpdate t (.map (some b)) k v; pure undef) m K := by
  have hK := (setBlkK_spec hK).2
  refine NMap.put (o := mapObj L) (o' := mapObj (L ++ [(k, v)])) (r := .raw undef) hj (fun w hb hm => ⟨w, .inl rfl, ?_⟩) hK
  have hf := findKey_run hT hL hk (r := none) hno w
  simp only [Instr.mapUpdate, Sem.run_bind, run_underlying hu, Result.andThen_ok]
  simp only [run_getObj hb, Result.andThen_ok, mapObj, Sem.run_bind, hT.check false k w hk, hf, run_setObj hb, AV.den, mapL_push]
  simp [Sem.run_pure]
theorem NMap.upd_old {t kt et : TypeId} {ok : Value → Prop} {m : List Blk} {K : AV → List Blk → Prop} {j b i : Nat} {L : List (Value × Value)} {k v v0 : Value} (hu : P.underlying t = some (.map kt et)) (hT : KeyT P kt ok) (hj : m[j]? = some (mapB b L)) (hL : ∀ q ∈ L, ok q.1) (hk : ok k)
    (hi : FirstIs L k (some (i, v0))) (hK : setBlkK m j (mapB b (L.set i (k, v))) (K (.raw undef))) : NMap P (do Instr.mapUpdate t (.map (some b)) k v; pure undef) m K := by
  have hK := (setBlkK_spec hK).2
  refine NMap.put (o := mapObj L) (o' := mapObj (L.set i (k, v))) (r := .raw undef) hj (fun w hb hm => ⟨w, .inl rfl, ?_⟩) hK
  have hf := findKey_run hT hL hk (r := some (i, v0)) hi w
  have hi' : (mapL L).toArray[i]? = some ⟨k, v0, i⟩ := by rw [List.getElem?_toArray, mapL_get, hi.1]; rfl
  have hm' : ((mapL L).toArray.modify i fun e => { e with key := k, val := v }) = (mapL (L.set i (k, v))).toArray := by
    apply Array.ext_getElem?
    intro n
    rw [Array.getElem?_modify, List.getElem?_toArray, List.getElem?_toArray, mapL_get, mapL_get, List.getElem?_set]
    have hlt := (List.getElem?_eq_some_iff.1 hi.1).1
    by_cases e : i = n
    · subst e
      simp [hlt]
    · simp [e]
  simp only [Instr.mapUpdate, Sem.run_bind, run_underlying hu, Result.andThen_ok]
  simp only [run_getObj hb, Result.andThen_ok, mapObj, Sem.run_bind, hT.check false k w hk, hf, hi', Option.map_some, Option.getD_some, Instr.keyThatStays, hT.bits k hk, if_true, Sem.run_pure, run_setObj hb, AV.den, hm', List.length_set]
/-- Keys of plain cells may be keys. -/
theorem flat_check (em : Bool) (w : World) : ∀ (n d : Nat) (t : TypeId) (ls : List Leaf) (x : AV) (xs : List AV), leafT P n t = some ls → flatT P n t = true → ShapeT P t x xs → (∃ b, eqCells ls xs xs = some b) →
    (Instr.checkKey em (d + n) t x.den).run P w = .ok () w
  | 0, _, _, _, _, _, h, _, _, _ => by simp [leafT] at h
  | n + 1, d, t, ls, x, xs, hl, hf, hx, he => by
    rw [← Nat.add_assoc]
    unfold leafT at hl
    unfold flatT at hf
    cases hu : P.underlying t with
    | none => simp [hu] at hl
    | some kd =>
      cases hs : szT P t with
      | none => simp [hu, hs] at hf
      | some s =>
        rw [hu] at hl
        rw [hu, hs] at hf
        unfold Instr.checkKey
        rw [Sem.run_bind, run_underlying hu, Result.andThen_ok]
        cases kd <;> simp only [Option.some.injEq, reduceCtorEq] at hl
        case bool => rfl
        case int k => rfl
        case string => rfl
        case struct fs =>
          have ha : aggT P t = some true := by simp [aggT, hu]
          have hx' : x = .agg xs := by
            rcases hx with ⟨_, h⟩ | ⟨h1, _⟩
            · exact h
            · rw [ha] at h1; cases h1
          subst hx'
          simp only [Bool.and_eq_true, Bool.not_eq_true', beq_iff_eq] at hf
          simp only [AV.den]
          rw [← Array.forIn_toList]
          have h2 := hf.2
          have h3 : ∃ b, eqCells ls (xs.drop 0) (xs.drop 0) = some b := by simpa using he
          have h0 : 0 ≤ xs.length := Nat.zero_le _
          clear he hf hx hs
          generalize fs.toList = L at hl h2 ⊢
          generalize (0 : Nat) = o at h2 h3 h0
          induction L generalizing o ls with
          | nil => simp
          | cons f L ih =>
            simp only [leafF] at hl
            split at hl
            · rename_i lx ly hlx hly
              injection hl with hl
              subst hl
              simp only [flatF] at h2
              split at h2
              · rename_i s1 hb hs1
                have hs2 := flat_size n f.type lx hlx hb
                rw [hs2] at hs1
                injection hs1 with hs1
                subst hs1
                split at h2
                · rename_i h4 h5
                  simp only [beq_iff_eq, beq_eq_false_iff_ne, ne_eq] at h4 h5
                  obtain ⟨b, h3⟩ := h3
                  obtain ⟨b1, b2, h6, h7, rfl⟩ := eqCells_append h3
                  have hlen := eqCells_length h3
                  simp only [List.length_drop, List.length_append] at hlen
                  obtain ⟨u, hu1, hu2⟩ := flat_part hlx hb (cs := xs) (off := o) (by omega)
                  have hr := flat_check em w n d f.type lx u _ hlx hb hu2 ⟨b1, h6⟩
                  rw [List.drop_drop] at h7
                  have hi := ih ly hly (o + lx.length) h2 ⟨b2, h7⟩ (by omega)
                  simp only [List.forIn_cons, Sem.run_bind, h4, h5, ne_eq, not_false_eq_true, if_true, hu1.runPart w, Result.andThen_ok, hr, Sem.run_pure] at hi ⊢
                  exact hi
                · cases h2
              · cases h2
            · cases hl
        case array len e =>
          have ha : aggT P t = some true := by simp [aggT, hu]
          have hx' : x = .agg xs := by
            rcases hx with ⟨_, h⟩ | ⟨h1, _⟩
            · exact h
            · rw [ha] at h1; cases h1
          subst hx'
          split at hl
          · rename_i l hle
            injection hl with hl
            subst hl
            simp only [Bool.and_eq_true] at hf
            have hse := flat_size n e l hle hf.1
            simp only [AV.den]
            simp only [Std.Legacy.Range.forIn_eq_forIn_range', Std.Legacy.Range.size, Nat.sub_zero, Nat.add_one_sub_one, Nat.div_one]
            have key : ∀ (m k : Nat), (∃ b, eqCells (repLeaf l m) (xs.drop (k * l.length)) (xs.drop (k * l.length)) = some b) →
                (forIn (List.range' k m) PUnit.unit fun i r => do
                  Instr.checkKey em (d + n) e (← part e (denL xs).toArray (i * (← sizeOf e)))
                  pure PUnit.unit
                  pure (ForInStep.yield PUnit.unit) : Sem PUnit).run P w = .ok PUnit.unit w := by
              intro m
              induction m with
              | zero => intro k _; simp
              | succ m ih =>
                intro k ⟨b, h3⟩
                simp only [repLeaf] at h3
                have hlen := eqCells_length h3
                simp only [List.length_drop, List.length_append] at hlen
                obtain ⟨b1, b2, h6, h7, rfl⟩ := eqCells_append h3
                rw [List.drop_drop] at h7
                have hc : l.length = 0 → k * l.length = 0 := fun h => by rw [h, Nat.mul_zero]
                obtain ⟨u, hu1, hu2⟩ := flat_part hle hf.1 (cs := xs) (off := k * l.length) (by omega)
                have hr := flat_check em w n d e l u _ hle hf.1 hu2 ⟨b1, h6⟩
                have hi := ih (k + 1) ⟨b2, by rw [Nat.add_mul, Nat.one_mul]; exact h7⟩
                simp only [List.range'_succ, List.forIn_cons, Sem.run_bind, run_sizeOf hse, hu1.runPart w, Result.andThen_ok, hr, Sem.run_pure]
                exact hi
            have := key len 0 (by simpa using he)
            simp only [Sem.run_bind, Sem.run_pure] at this ⊢
            rw [this]
            rfl
          · cases hl
/-- Whole numbers as cells. -/
def intsA (l : List Int) : List AV := l.map fun n => .int .i64 n
def intsV (l : List Int) : Value := .agg (l.map fun n => Value.int .i64 n).toArray
theorem intsA_den (l : List Int) : (AV.agg (intsA l)).den = intsV l := by
  unfold intsA intsV
  rw [AV.den]
  congr 2
  induction l with
  | nil => rfl
  | cons x l ih => rw [List.map_cons, denL, ih, List.map_cons]; rfl
theorem eqCells_ints : ∀ (a b : List Int), a.length = b.length → eqCells (List.replicate a.length .i) (intsA a) (intsA b) = some (decide (a = b))
  | [], [], _ => by simp [intsA, eqCells]
  | [], _ :: _, h => by simp at h
  | _ :: _, [], h => by simp at h
  | x :: a, y :: b, h => by
    have ih := eqCells_ints a b (by simpa using h)
    unfold intsA at *
    simp only [List.map_cons, List.length_cons, List.replicate_succ, eqCells, ih, eqCell, sameKind]
    by_cases h1 : x = y <;> by_cases h2 : a = b <;> simp [h1, h2]
/-- Keys that are structs, or arrays, of whole numbers alone. -/
theorem KeyT.ints {kt : TypeId} {n : Nat} (hl : leafT P 8 kt = some (List.replicate n .i)) (hf : flatT P 8 kt = true) (ha : aggT P kt = some true) : KeyT P kt fun v => ∃ l : List Int, l.length = n ∧ v = intsV l where
  check e x w := by
    rintro ⟨l, rfl, rfl⟩
    rw [← intsA_den]
    exact flat_check e w 8 9992 kt _ _ (intsA l) hl hf (.inl ⟨ha, rfl⟩) ⟨_, eqCells_ints l l rfl⟩
  under := by
    unfold aggT at ha
    cases hu : P.underlying kt with
    | none => rw [hu] at ha; cases ha
    | some td =>
      refine ⟨td, rfl, fun x y hx hy => .inl ?_⟩
      obtain ⟨l, _, rfl⟩ := hx
      obtain ⟨l', _, rfl⟩ := hy
      cases td <;> rfl
  eq x y w := by
    rintro ⟨a, ha1, rfl⟩ ⟨b, hb1, rfl⟩
    have he := eqCells_ints a b (by omega)
    rw [ha1] at he
    have h1 := flat_equal w 8 9992 kt _ (.agg (intsA a)) (.agg (intsA b)) _ _ _ hl hf (.inl ⟨ha, rfl⟩) (.inl ⟨ha, rfl⟩) he
    rw [intsA_den, intsA_den] at h1
    by_cases e : a = b
    · subst e
      rw [show decide (a = a) = true by simp] at h1
      exact .inl ⟨rfl, h1⟩
    · rw [decide_eq_false e] at h1
      refine .inr ⟨fun h => e ?_, h1⟩
      unfold intsV at h
      injection h with h
      have h2 := congrArg Array.toList h
      simp only  at h2
      exact (List.map_inj_right (fun p q h => by injection h)).1 h2
  bits x := by
    rintro ⟨l, _, rfl⟩
    unfold intsV
    have : ∀ (k : Nat) (a : List Int), ((a.map fun n => Value.int .i64 n).zip (a.map fun n => Value.int .i64 n)).all (fun (x, y) => Instr.sameBits k x y) = true := fun k a => by
      induction a with
      | nil => rfl
      | cons x a ih => simp only [List.map_cons, List.zip_cons_cons, List.all_cons, ih, Bool.and_true]; simp [Instr.sameBits]
    simp only [Instr.sameBits, beq_self_eq_true, Bool.true_and]
    exact this _ l
/-- A map lies in block b, be it one's own or read alone. -/
def MapIn (m : List Blk) (b : Nat) (L : List (Value × Value)) : Prop := ∀ w, MemOk m w → w.heap[b]? = some (mapObj L)
theorem MapIn.own {m : List Blk} {j b : Nat} {L : List (Value × Value)} (hj : m[j]? = some (mapB b L)) : MapIn m b L := fun w hm => hm.obj hj
theorem MapIn.heap {m : List Blk} {j b : Nat} {F : Heap} {L : List (Value × Value)} (hj : m[j]? = some (hpB F)) (h : F.o b (mapObj L)) : MapIn m b L := fun w hm => (hm.holds _ (List.mem_of_getElem? hj)).2.2 b _ h
theorem NMap.range {t kt et : TypeId} {m : List Blk} {K : AV → List Blk → Prop} {b : Nat} {L : List (Value × Value)} (hu : P.underlying t = some (.map kt et)) (hb : MapIn m b L) (hK : ∀ c, appK m (itB c b L.length #[]) (K (.raw (.pointer (some ⟨c, 0, none⟩))))) : NMap P (Instr.range t (.map (some b))) m K := by
  have hK := fun c => appK_spec (hK c)
  refine NMap.new (o := .mapIter (some b) L.length #[] L.length) (r := fun c => .raw (.pointer (some ⟨c, 0, none⟩))) (fun w hm => ?_) hK
  have hb := hb w hm
  unfold mapObj at hb
  simp only [Instr.range, Sem.run_bind, run_underlying hu, Result.andThen_ok, run_getObj hb, Sem.run_pure]
  rfl
/-- One round more, or none. -/
theorem NMap.next {m : List Blk} {K : AV → List Blk → Prop} {j b c : Nat} {seen : Array Nat} {L : List (Value × Value)} (hj : m[j]? = some (itB c b L.length seen)) (hb : MapIn m b L)
    (h0 : (∀ i, i < L.length → seen.contains i = true) → K (.tup [.bool false]) m)
    (h1 : ∀ i k v, L[i]? = some (k, v) → seen.contains i = false → ∃ x y : AV, x.den = k ∧ y.den = v ∧ setBlkK m j (itB c b L.length (seen.push i)) (K (.tup [.bool true, x, y]))) :
    NMap P (Instr.next (.pointer (some ⟨c, 0, none⟩)) false 0) m K := by
  rw [NMap_iff]
  intro w hm
  have hc := hm.obj hj
  have hmb := hb w hm
  have hborn : ∀ x ∈ (mapL L).toArray.toList, x.born < L.length := fun x hx => by
    obtain ⟨i, hi⟩ := List.getElem?_of_mem hx
    rw [mapL_get] at hi
    cases hL : L[i]? with
    | none => rw [hL] at hi; cases hi
    | some p =>
      rw [hL] at hi
      injection hi with hi
      subst hi
      exact (List.getElem?_eq_some_iff.1 hL).1
  rcases run_next_at (P := P) w 0 c b L.length L.length seen (mapL L).toArray L.length hc hmb hborn (Nat.le_refl _) with ⟨h2, h3⟩ | ⟨e, he, w1, hw1, h3⟩
  · refine ⟨.tup [.bool false], m, w, h3, h0 fun i hi => ?_, hm, Fr.refl _ _, Fresh.self _ _⟩
    cases hs : seen.contains i with
    | true => rfl
    | false =>
      exfalso
      have hg : L[i]? = some L[i] := List.getElem?_eq_getElem hi
      have : (⟨L[i].1, L[i].2, i⟩ : MapEntry) ∈ leftOf (mapL L).toArray seen := by
        unfold leftOf
        rw [Array.mem_filter]
        exact ⟨by rw [List.mem_toArray]; exact List.mem_of_getElem? (by rw [mapL_get, hg]; rfl), by simp only [hs]; rfl⟩
      rw [Array.eq_empty_of_size_eq_zero h2] at this
      simp at this
  · unfold leftOf at he
    rw [Array.mem_toList_iff, Array.mem_filter, List.mem_toArray] at he
    obtain ⟨he1, he2⟩ := he
    obtain ⟨i, hi⟩ := List.getElem?_of_mem he1
    rw [mapL_get] at hi
    cases hL : L[i]? with
    | none => rw [hL] at hi; cases hi
    | some p =>
      rw [hL] at hi
      injection hi with hi
      subst hi
      obtain ⟨x, y, hx, hy, hK⟩ := h1 i p.1 p.2 hL (by simpa using he2)
      have hK := (setBlkK_spec hK).2
      obtain ⟨h4, h5, h6⟩ := put_mem (.mapIter (some b) L.length (seen.push i) L.length) hm hj hw1
      refine ⟨.tup [.bool true, x, y], _, _, ?_, hK, h4, h5, h6⟩
      rw [h3]
      simp [AV.den, denL, hx, hy]
theorem mapL_births (L : List (Value × Value)) : ((mapL L).toArray.toList.map (·.born)).Nodup := by
  have e : (mapL L).toArray.toList.map (·.born) = List.range L.length := by
    apply List.ext_getElem?
    intro i
    rw [List.getElem?_map]
    show Option.map _ ((mapL L)[i]?) = _
    rw [mapL_get]
    by_cases h : i < L.length
    · rw [List.getElem?_eq_getElem h, List.getElem?_range h]; rfl
    · rw [List.getElem?_eq_none (by omega), List.getElem?_eq_none (by rw [List.length_range]; omega)]; rfl
  rw [e]
  exact List.nodup_range
/-- The entry that the round is at. -/
theorem NMap.now {m : List Blk} {K : AV → List Blk → Prop} {j b c i : Nat} {seen : Array Nat} {L : List (Value × Value)} {k v : Value} {x y : AV} (hj : m[j]? = some (itB c b L.length (seen.push i))) (hb : MapIn m b L) (hi : L[i]? = some (k, v)) (hx : x.den = k) (hy : y.den = v) (hK : K (.tup [x, y]) m) :
    NMap P (Instr.entry (.pointer (some ⟨c, 0, none⟩))) m K := by
  refine NMap.read (r := .tup [x, y]) (fun w hm => ?_) hK
  have hc := hm.obj hj
  have hmb := hb w hm
  have := run_entry_at (P := P) w c b L.length seen (mapL L).toArray L.length ⟨k, v, i⟩ hc hmb (List.mem_of_getElem? (i := i) (by show (mapL L)[i]? = _; rw [mapL_get, hi]; rfl)) (mapL_births L)
  rw [this]
  simp [AV.den, denL, hx, hy]
def addO (F : Heap) (b : Nat) (o : Obj) : Heap := ⟨F.c, fun b' o' => F.o b' o' ∨ (b' = b ∧ o' = o)⟩
theorem addO.old {F : Heap} {b : Nat} {o : Obj} : F.le (addO F b o) := ⟨fun _ _ h => h, fun _ _ h => .inl h⟩
/-- A map of one's own is read alone from then on. -/
theorem MemFits.freezeObj {F : Heap} {b : Nat} {o : Obj} {m : List Blk} : MemFits (hpB F :: ⟨⟨b, 0, none⟩, [], .obj o⟩ :: m) (hpB (addO F b o) :: m) := fun w hm => by
  have h1 := hm.holds (hpB F) (by simp)
  have h2 := hm.holds ⟨⟨b, 0, none⟩, [], .obj o⟩ (by simp)
  have hs := hm.sep
  simp only [List.pairwise_cons] at hs
  have hf : ∀ c, (hpB (addO F b o)).foot c → (hpB F).foot c ∨ (⟨⟨b, 0, none⟩, [], .obj o⟩ : Blk).foot c := by
    rintro c (⟨x, u, hu, rfl⟩ | ⟨o', ho | ⟨rfl, rfl⟩⟩)
    · exact .inl (.inl ⟨x, u, hu, rfl⟩)
    · exact .inl (.inr ⟨o', ho⟩)
    · exact .inr rfl
  refine ⟨⟨fun k hk => ?_, ?_⟩, fun c ⟨k, hk, hw, hb⟩ => ?_, fun c ⟨k, hk, hb⟩ => ?_⟩
  · rcases List.mem_cons.1 hk with rfl | hk
    · refine ⟨rfl, h1.2.1, fun c o' ho => ?_⟩
      rcases ho with ho | ⟨rfl, rfl⟩
      · exact h1.2.2 c o' ho
      · exact h2.2.2.2
    · exact hm.holds k (List.mem_cons_of_mem _ (List.mem_cons_of_mem _ hk))
  · refine List.pairwise_cons.2 ⟨fun k hk hw c hc hd => ?_, hs.2.2⟩
    have hkw : k.wr = true := by
      rcases hw with hw | hw
      · cases hw
      · exact hw
    rcases hf c hc with hc | hc
    · exact hs.1 k (List.mem_cons_of_mem _ hk) (.inr hkw) c hc hd
    · exact hs.2.1 k hk (.inr hkw) c hc hd
  · rcases List.mem_cons.1 hk with rfl | hk
    · cases hw
    · exact ⟨k, List.mem_cons_of_mem _ (List.mem_cons_of_mem _ hk), hw, hb⟩
  · rcases List.mem_cons.1 hk with rfl | hk
    · rcases hf c hb with hc | hc
      · exact ⟨hpB F, by simp, hc⟩
      · exact ⟨_, List.mem_cons_of_mem _ (List.mem_cons_self ..), hc⟩
    · exact ⟨k, List.mem_cons_of_mem _ (List.mem_cons_of_mem _ hk), hb⟩
end
end Go.Sx
namespace Go.Proofs.YtngodakgbldlpaaGreatDoor
open Go.Sx
set_option maxRecDepth 20000
set_option maxHeartbeats 4000000
set_option linter.unusedVariables false
namespace Po
theorem lt_ahead (x y : S) : Go.Proofs.ltOf cmpS x y = decide (ahead x y) := by
  unfold Go.Proofs.ltOf
  exact decide_eq_decide.2 (cmpS_lt x y)
theorem swoS : Go.Sort.SWO (Go.Proofs.ltOf cmpS) where
  irrefl x := by rw [lt_ahead]; exact decide_eq_false (ahead_irrefl x)
  trans x y z h1 h2 := by rw [lt_ahead, decide_eq_true_eq] at *; exact ahead_trans h1 h2
  ntrans x y z h1 h2 := by rw [lt_ahead, decide_eq_false_iff_not] at *; unfold ahead at *; omega
end Po
theorem sorts_c (v : Value) (t : TypeId) (L : List Po.S) (hl : L.length < 4611686018427387904) :
    NCall Tryz.prog 65 [.sl 0 v L.length, .fn 38 [] []] [⟨addrOf v, Po.savs L, .row v t 5 L.length⟩] fun r m => r = .tup [] ∧ ∃ L' : List Po.S, L'.Perm L ∧ L'.Pairwise (fun x y => ¬ Po.ahead y x) ∧ m = [⟨addrOf v, Po.savs L', .row v t 5 L.length⟩] := by
  rw [NCall_iff]
  refine ⟨Go.Sx.enters_of Tryz.func65 rfl (by decide), fun w hm => ?_⟩
  obtain ⟨⟨h1, h2⟩, h3⟩ := hm.holds _ (List.mem_singleton.2 rfl)
  rcases h2 with ⟨rfl, hn⟩ | ⟨g, cap, cur, rfl, _, hg, hle, hcap, hsz, htk⟩
  · have e : L = [] := List.length_eq_zero_iff.1 hn
    subst e
    refine (AnyF.slices_SortFunc_none Tryz.sortSent none 0 _ w).mono fun e w' ⟨he, hw⟩ => ?_
    subst hw
    exact ⟨.tup [], _, ⟨rfl, [], List.Perm.refl _, List.Pairwise.nil, rfl⟩, he, hm, Fr.refl _ _, Fresh.self _ _⟩
  · rw [Po.savs_den] at htk
    have hlt : g < w.heap.size := (Array.getElem?_eq_some_iff.1 hg).1
    have hH : Go.Sort.HoldsK Po.S.vs 5 w g 0 L.toArray := by
      unfold Go.Sort.HoldsK
      rw [Po.flatK_eq]
      exact holds_of_blockV hg (by rw [Po.flat_len]; exact htk)
    have eg : ∀ args w, (callFunc 38 args).run Tryz.prog w = .ok (.enter 38 args) w := Go.Sx.enters_of Tryz.func38 rfl (by decide)
    have hcmp : Go.Proofs.CmpLays Tryz.prog 38 #[] Po.S.vs 5 Po.cmpS g 0 L.toArray.size w := fun m os dk _ x y => by
      simpa using order27_x x y _
    refine (AnyQ.slices_SortFunc Tryz.sortSent 5 (fun w => Go.Sx.run_isAgg (b := true) (by kernel_rfl) w) (fun w => Go.Sx.run_sizeOf (s := 5) (by kernel_rfl) w) Po.S.vs (fun _ => rfl) (fun x v hv => by simp [Po.S.vs] at hv; rcases hv with rfl | rfl | rfl | rfl | rfl <;> rfl) Po.cmpS Po.swoS 38 #[] g 0 cap L.toArray w eg hcmp hH hlt (by simpa using hl)).mono fun e w' ⟨he, d', n, os, hp, hs, hw⟩ => ?_
    have hperm : d'.toList.Perm L := by
      have h4 := hp.2.2
      have e1 : d'.extract 0 L.toArray.size = d' := by
        have := hp.1
        rw [← this, Array.extract_size]
      rw [e1] at h4
      simpa using h4
    have hsort : d'.toList.Pairwise (fun x y => ¬ Po.ahead y x) := by
      rw [List.pairwise_iff_getElem]
      intro i j hi hj hij
      have hsz2 := hp.1
      have h4 := hs i j (Nat.zero_le _) hij (by rw [← hsz2]; simpa using hj)
      rw [Po.lt_ahead, decide_eq_false_iff_not] at h4
      rw [getElem!_pos _ j (by simpa using hj), getElem!_pos _ i (by simpa using hi)] at h4
      simpa using h4
    have hlen : d'.toList.length = L.length := hperm.length_eq
    have hw' : w' = Go.Sort.grow (Go.Sort.putRow id (Go.Sort.ahead w n) g 0 (d'.toList.flatMap Po.S.vs).toArray) os := by
      rw [hw]
      unfold Go.Proofs.sortWorldK Go.Sort.putRowK
      rw [show d' = d'.toList.toArray from rfl, Po.flatK_eq]
    have hgr := grownBy_sortedV (w := w) (g := g) (n := n) (os := os) (d'.toList.flatMap Po.S.vs).toArray
    have hhp := heap_sortedV (n := n) (os := os) (d'.toList.flatMap Po.S.vs).toArray hg
    rw [← hw'] at hgr hhp
    have hfl : (d'.toList.flatMap Po.S.vs).length = L.length * 5 := by rw [Po.flat_len, hlen]
    have hown : w'.ownsRow 0 t 5 (.slice (some ⟨g, 0, none⟩) L.length cap) L.length (denL (Po.savs d'.toList)) := by
      rw [Po.savs_den]
      exact ⟨by rw [hfl], .inr ⟨g, cap, _, rfl, Nat.zero_le _, hhp, hle, hcap, by simp [Go.Sort.putCells, hsz], by rw [← hfl]; exact take_putCellsV cur _ (by rw [hfl, hsz]; exact Nat.mul_le_mul_right 5 hle)⟩⟩
    have hfr := Fr.grown hgr
    refine ⟨.tup [], _, ⟨rfl, d'.toList, hperm, hsort, rfl⟩, he, ?_, ?_, ?_⟩
    · exact hm.set (i := 0) (k := ⟨addrOf (.slice (some ⟨g, 0, none⟩) L.length cap), Po.savs d'.toList, .row (.slice (some ⟨g, 0, none⟩) L.length cap) t 5 L.length⟩) hfr.size rfl rfl
        (fun b hb hlt => hfr.block b hlt fun e => hb e) ⟨hown, rfl⟩ rfl (.inr (.inl rfl))
    · exact ⟨hfr.os, hfr.tape, hfr.output, hfr.size, fun k hk hS => hfr.block k hk fun e => hS ⟨_, List.mem_singleton.2 rfl, rfl, e⟩⟩
    · exact Fresh.set (i := 0) (Fresh.self _ _) (k := ⟨addrOf (.slice (some ⟨g, 0, none⟩) L.length cap), Po.savs d'.toList, .row (.slice (some ⟨g, 0, none⟩) L.length cap) t 5 L.length⟩) rfl fun b hb => .inl ⟨_, List.mem_singleton.2 rfl, rfl, hb⟩
end Go.Proofs.YtngodakgbldlpaaGreatDoor
