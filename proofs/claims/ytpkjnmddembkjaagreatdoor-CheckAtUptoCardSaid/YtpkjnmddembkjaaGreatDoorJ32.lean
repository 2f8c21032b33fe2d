/-
  Conditions: their text. Plain; Numerals and joined texts: the library's contracts, over what is read alone.
-/
import Derived.Test.YtpkjnmddembkjaaGreatDoorJ1
import Derived.Lib.Join
import Derived.Lib.ItoaLen
import Derived.Test.YtpkjnmddembkjaaGreatDoorJ8
import Derived.Test.YtpkjnmddembkjaaGreatDoorSxC
namespace Go.Proofs.YtpkjnmddembkjaaGreatDoor
open Go.Sx
set_option maxRecDepth 20000
set_option linter.unusedVariables false
namespace Pd
def word (f : Int) : List UInt8 :=
  if f = 0 then [115, 114, 99] else if f = 1 then [100, 115, 116] else if f = 2 then [107, 105, 110, 100] else if f = 3 then [116, 97, 103] else if f = 4 then [112, 111, 114, 116] else [115, 119, 105, 116, 99, 104]
def sepOf (k : Int) : List UInt8 := if k = 5 then [32, 97, 110, 100, 32] else [32, 111, 114, 32]
def innerT (k : Int) (s : List UInt8) : List UInt8 := if k = 5 ∨ k = 6 then 40 :: (s ++ [41]) else s
mutual
def text : T → List UInt8
  | .mk k f v l => if k = 1 then [116, 114, 117, 101] else if k = 2 then [102, 97, 108, 115, 101] else if k = 3 then word f ++ ([32, 61, 32] ++ Lib.itoa v)
    else if k = 4 then [110, 111, 116, 32] ++ Lib.join (parts l) [] else Lib.join (parts l) (sepOf k)
def parts : List T → List (List UInt8)
  | [] => []
  | p :: l => innerT p.k (text p) :: parts l
end
theorem parts_map (l : List T) : parts l = l.map fun p => innerT p.k (text p) := by
  induction l with
  | nil => rfl
  | cons p l ih => rw [parts, ih]; rfl
theorem parts_take {l : List T} {i : Nat} (h : i < l.length) : parts (l.take (i + 1)) = parts (l.take i) ++ [innerT l[i].k (text l[i])] := by
  rw [parts_map, parts_map, List.take_add_one, List.getElem?_eq_getElem h, List.map_append]
  rfl
theorem parts_len (l : List T) : (parts l).length = l.length := by rw [parts_map, List.length_map]
theorem word_len (f : Int) : (word f).length ≤ 6 := by
  unfold word
  repeat' split
  all_goals decide
theorem innerT_len (k : Int) (s : List UInt8) : (innerT k s).length ≤ s.length + 2 := by
  unfold innerT
  split
  · simp
  · omega
theorem joinTail_len (sep : List UInt8) : ∀ r : List (List UInt8), (Lib.joinTail sep r).length = (r.map fun x => sep.length + x.length).sum
  | [] => rfl
  | x :: r => by
    have := joinTail_len sep r
    unfold Lib.joinTail at *
    simp only [List.map_cons, List.flatten_cons, List.length_append, List.sum_cons, this]
theorem join_le (sep : List UInt8) (r : List (List UInt8)) : (Lib.join r sep).length ≤ (r.map fun x => sep.length + x.length).sum := by
  cases r with
  | nil => simp [Lib.join, List.intercalate]
  | cons x r =>
    rw [Lib.join_cons, List.length_append, joinTail_len, List.map_cons, List.sum_cons]
    omega
theorem top_lt (f : Int) : top f ≤ 255 := by unfold top; split <;> first | omega | (split <;> first | omega | (split <;> omega))
mutual
theorem text_len : ∀ p : T, fits p = true → (text p).length + 7 ≤ 40 * size p
  | .mk k f v l, h => by
    rw [fits, Bool.and_eq_true] at h
    have hp := parts_sum l h.2
    have hj0 := join_le [] (parts l)
    have hj := join_le (sepOf k) (parts l)
    have hs : (sepOf k).length ≤ 5 := by unfold sepOf; split <;> decide
    have h0 : ((parts l).map fun x => ([] : List UInt8).length + x.length).sum ≤ ((parts l).map fun x => 5 + x.length).sum := sum_le _ (by simp)
    have h5 : ((parts l).map fun x => (sepOf k).length + x.length).sum ≤ ((parts l).map fun x => 5 + x.length).sum := sum_le _ hs
    have hw := word_len f
    rw [size, text]
    split
    · simp only [List.length_cons, List.length_nil]; omega
    split
    · simp only [List.length_cons, List.length_nil]; omega
    split
    · rename_i hk
      have h1 := h.1
      unfold shape at h1
      rw [decide_eq_true_eq] at h1
      have ht := top_lt f
      have := Lib.itoa_length_le v (by omega) (by omega)
      simp only [List.length_append, List.length_cons, List.length_nil]
      omega
    split
    · simp only [List.length_append, List.length_cons, List.length_nil]; omega
    · omega
theorem parts_sum : ∀ l : List T, fitsL l = true → ((parts l).map fun x => 5 + x.length).sum ≤ 40 * sizeL l
  | [], _ => by simp [parts]
  | p :: l, h => by
    rw [fitsL, Bool.and_eq_true] at h
    have h1 := text_len p h.1
    have h2 := parts_sum l h.2
    have h3 := innerT_len p.k (text p)
    rw [parts, sizeL, List.map_cons, List.sum_cons]
    omega
theorem sum_le {a b : Nat} : ∀ r : List (List UInt8), a ≤ b → (r.map fun x => a + x.length).sum ≤ (r.map fun x => b + x.length).sum
  | [], _ => by simp
  | x :: r, h => by have := sum_le r h; rw [List.map_cons, List.map_cons, List.sum_cons, List.sum_cons]; omega
end
end Pd
end Go.Proofs.YtpkjnmddembkjaaGreatDoor
namespace Go.Proofs.YtpkjnmddembkjaaGreatDoor
open Go.Sx
/-- The library's table of powers of ten. -/
def TabF (F : Heap) : Prop := ∃ t fr, F.o 0 (.cells (Lib.pow10Tab.map fun z => Value.int .u64 z).toArray t fr)
theorem TabF.mono {F G : Heap} (h : F.le G) (hF : TabF F) : TabF G := by
  obtain ⟨t, fr, h1⟩ := hF
  exact ⟨t, fr, h.o _ _ h1⟩
theorem MemOk.heapO {F : Heap} {w : World} (h : MemOk [hpB F] w) {b : Nat} {o : Obj} (ho : F.o b o) : w.heap[b]? = some o :=
  (h.holds (hpB F) (by simp)).2.2 b o ho
theorem tab_is {F : Heap} (hF : TabF F) {w : World} (h : MemOk [hpB F] w) : Lib.TabIs Tryz.prog w "internal/strconv.uint64pow10" .u64 Lib.pow10Tab := by
  obtain ⟨t, fr, h1⟩ := hF
  have h2 := MemOk.heapO h h1
  have hg : Tryz.prog.globalNamed "internal/strconv.uint64pow10" = some 0 := by kernel_rfl
  unfold Lib.TabIs World.var?
  rw [hg]
  simp only [Option.bind_some, h2]
theorem itoa_c (F : Heap) (hF : TabF F) (n : Int) (hn : -9223372036854775808 ≤ n ∧ n ≤ 9223372036854775807) : NCall Tryz.prog 72 [.int .i64 n] [hpB F] fun r m => r = .str (Lib.itoa n) ∧ m = [hpB F] := by
  refine ncall_below (Go.Sx.enters_of Tryz.func72 rfl (by decide)) fun w hw => ?_
  refine (Tryz.strconv_Itoa n hn.1 hn.2 w (tab_is hF hw)).mono fun e w' ⟨h1, k, os, h2⟩ => ?_
  subst h2
  refine ⟨h1, rfl, rfl, rfl, by simp [Sort.grow, World.drewN], fun b hb => ?_⟩
  simp [Sort.grow, World.drewN, Array.getElem?_append_left hb]
/-- A text's cell. -/
def strV (x : List UInt8) : List Value := [.string ⟨x.toArray⟩]
theorem join_c (F : Heap) (v : Value) (l : List (List UInt8)) (sep : List UInt8) (hv : RowF F 1 (fun x vs => vs = strV x) v l) (hl : (Lib.join l sep).length ≤ 140737488355328) (hn : l.length ≤ 140737488355328) :
    NCall Tryz.prog 73 [.hs v l.length, .str sep] [hpB F] fun r m => r = .str (Lib.join l sep) ∧ m = [hpB F] := by
  have hen : ∀ (us : Array Value) (w : World), (callFunc 73 us).run Tryz.prog w = .ok (.enter 73 us) w := Go.Sx.enters_of Tryz.func73 rfl (by decide)
  obtain ⟨⟨A, cap, rfl, hcap, hA⟩, hat⟩ := hv
  cases l with
  | nil =>
    refine ncall_below hen fun w hw => ?_
    refine (Tryz.strings_Join_none A cap ⟨sep.toArray⟩ w).mono fun e w' ⟨h1, h2⟩ => ?_
    subst h2
    exact ⟨h1, rfl, rfl, rfl, Nat.le_refl _, fun _ _ => rfl⟩
  | cons x l =>
    refine ncall_below hen fun w hw => ?_
    have hc : ∀ a u, F.c a u → a.block < w.heap.size ∧ w.cell? a = some u := (hw.holds (hpB F) (by simp)).2.1
    cases A with
    | none => have := hA rfl; simp at hcap; omega
    | some a =>
      obtain ⟨vs, rfl, _, h0⟩ := hat 0 x rfl
      have h00 := hc _ _ h0.1
      have hsp : a.spot = none := by
        have h1 := World.cell?_spot h00.2
        simpa [addrOf, Addr.add] using h1
      obtain ⟨bk, o, sp⟩ := a
      dsimp only at hsp
      subst hsp
      have hm : ((x :: l).map fun y => (⟨y.toArray⟩ : ByteArray)).map (·.data.toList) = x :: l := by simp [Function.comp_def]
      have hj := Tryz.strings_Join bk o cap ((x :: l).map fun y => ⟨y.toArray⟩) ⟨sep.toArray⟩ w (fun j y hy => by
        rw [List.getElem?_map] at hy
        cases hx : (x :: l)[j]? with
        | none => rw [hx] at hy; cases hy
        | some z =>
          rw [hx] at hy
          injection hy with hy
          subst hy
          obtain ⟨vs, rfl, _, h1⟩ := hat j z hx
          have := (hc _ _ h1.1).2
          by_cases hj0 : j = 0
          · subst hj0; simpa [addrOf, Addr.add] using this
          · simpa [addrOf, Addr.add, hj0] using this) (by have := h00.1; rw [block_of_add] at this; exact this) (by simpa using hn) (by simpa using hcap) (by rw [hm]; simpa using hl)
      rw [hm] at hj
      simp only [List.length_map] at hj
      refine hj.mono fun e w' ⟨h1, h2⟩ => ?_
      exact ⟨by simpa [AV.den] using h1, h2.os, h2.tape, h2.output, h2.size, h2.block⟩
def strAV (l : List (List UInt8)) : List AV := l.map .str
theorem strAV_den (l : List (List UInt8)) : denL (strAV l) = l.flatMap strV := by
  induction l with
  | nil => rfl
  | cons x l ih => simp only [strAV, List.map_cons, List.flatMap_cons, strV, denL, AV.den] at *; rw [ih]; rfl
theorem strAV_len (l : List (List UInt8)) : (strAV l).length = l.length := by simp [strAV]
/-- Joined out of a row of one's own. -/
theorem join_own (F : Heap) (v : Value) (l : List (List UInt8)) (sep : List UInt8) (t : TypeId) (m : List Blk) (hm : MemFits m [hpB F, ⟨addrOf v, strAV l, .row v t 1 l.length⟩]) (hl : (Lib.join l sep).length ≤ 140737488355328) (hn : l.length ≤ 140737488355328) (i : Nat) :
    NCall Tryz.prog 73 [.sl i v l.length, .str sep] m fun r m' => r = .str (Lib.join l sep) ∧ m' = m :=
  NCall.frozen (args' := [.hs v l.length, .str sep]) strV (join_c noHeap (.slice none 0 0) [] [] RowF.nil (by decide) (by decide)) rfl hm rfl (strAV_den l) (fun _ _ => rfl) fun G _ hr =>
    (join_c G v l sep hr hl hn).mono fun _ _ h => ⟨h.1, rfl⟩
end Go.Proofs.YtpkjnmddembkjaaGreatDoor
