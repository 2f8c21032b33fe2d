/-
  Numerals and joined texts: the library's contracts, over what is read alone.
-/
import Derived.Test.YtpkjnmddembkjaaGreatDoorLay
import Derived.Lib.Join
import Derived.Test.YtpkjnmddembkjaaGreatDoorSxC
namespace Go.Proofs.YtpkjnmddembkjaaGreatDoor
open Go.Sx
/-- The library's table of powers of ten. -/
def TabF (F : Heap) : Prop := ∃ t fr, F.o 0 (.cells (Lib.pow10Tab.map fun z => Value.int .u64 z).toArray t fr)
theorem TabF.mono {F G : Heap} (h : F.le G) (hF : TabF F) : TabF G := by
  obtain ⟨t, fr, h1⟩ := hF
  exact ⟨t, fr, h.o _ _ h1⟩
theorem MemOk.heapO {F : Heap} {w : World} (h : MemOk [hpB F] w) {b : Nat} {o : Obj} (ho : F.o b o) : w.heap[b]? = some o :=
  (h.holds (hpB F) (by simp)).2.2 b o ho
theorem tab_is {F : Heap} (hF : TabF F) {w : World} (h : MemOk [hpB F] w) : Lib.TabIs Tryz.prog w "internal/strconv.uint64pow10" .u64 Lib.pow10Tab := by
  obtain ⟨t, fr, h1⟩ := hF
  have h2 := MemOk.heapO h h1
  have hg : Tryz.prog.globalNamed "internal/strconv.uint64pow10" = some 0 := by kernel_rfl
  unfold Lib.TabIs World.var?
  rw [hg]
  simp only [Option.bind_some, h2]
theorem itoa_c (F : Heap) (hF : TabF F) (n : Int) (hn : -9223372036854775808 ≤ n ∧ n ≤ 9223372036854775807) : NCall Tryz.prog 72 [.int .i64 n] [hpB F] fun r m => r = .str (Lib.itoa n) ∧ m = [hpB F] := by
  refine ncall_below (Go.Sx.enters_of Tryz.func72 rfl (by decide)) fun w hw => ?_
  refine (Tryz.strconv_Itoa n hn.1 hn.2 w (tab_is hF hw)).mono fun e w' ⟨h1, k, os, h2⟩ => ?_
  subst h2
  refine ⟨h1, rfl, rfl, rfl, by simp [Sort.grow, World.drewN], fun b hb => ?_⟩
  simp [Sort.grow, World.drewN, Array.getElem?_append_left hb]
/-- A text's cell. -/
def strV (x : List UInt8) : List Value := [.string ⟨x.toArray⟩]
theorem join_c (F : Heap) (v : Value) (l : List (List UInt8)) (sep : List UInt8) (hv : RowF F 1 (fun x vs => vs = strV x) v l) (hl : (Lib.join l sep).length ≤ 140737488355328) (hn : l.length ≤ 140737488355328) :
    NCall Tryz.prog 73 [.hs v l.length, .str sep] [hpB F] fun r m => r = .str (Lib.join l sep) ∧ m = [hpB F] := by
  have hen : ∀ (us : Array Value) (w : World), (callFunc 73 us).run Tryz.prog w = .ok (.enter 73 us) w := Go.Sx.enters_of Tryz.func73 rfl (by decide)
  obtain ⟨⟨A, cap, rfl, hcap, hA⟩, hat⟩ := hv
  cases l with
  | nil =>
    refine ncall_below hen fun w hw => ?_
    refine (Tryz.strings_Join_none A cap ⟨sep.toArray⟩ w).mono fun e w' ⟨h1, h2⟩ => ?_
    subst h2
    exact ⟨h1, rfl, rfl, rfl, Nat.le_refl _, fun _ _ => rfl⟩
  | cons x l =>
    refine ncall_below hen fun w hw => ?_
    have hc : ∀ a u, F.c a u → a.block < w.heap.size ∧ w.cell? a = some u := (hw.holds (hpB F) (by simp)).2.1
    cases A with
    | none => have := hA rfl; simp at hcap; omega
    | some a =>
      obtain ⟨vs, rfl, _, h0⟩ := hat 0 x rfl
      have h00 := hc _ _ h0.1
      have hsp : a.spot = none := by
        have h1 := World.cell?_spot h00.2
        simpa [addrOf, Addr.add] using h1
      obtain ⟨bk, o, sp⟩ := a
      dsimp only at hsp
      subst hsp
      have hm : ((x :: l).map fun y => (⟨y.toArray⟩ : ByteArray)).map (·.data.toList) = x :: l := by simp [Function.comp_def]
      have hj := Tryz.strings_Join bk o cap ((x :: l).map fun y => ⟨y.toArray⟩) ⟨sep.toArray⟩ w (fun j y hy => by
        rw [List.getElem?_map] at hy
        cases hx : (x :: l)[j]? with
        | none => rw [hx] at hy; cases hy
        | some z =>
          rw [hx] at hy
          injection hy with hy
          subst hy
          obtain ⟨vs, rfl, _, h1⟩ := hat j z hx
          have := (hc _ _ h1.1).2
          by_cases hj0 : j = 0
          · subst hj0; simpa [addrOf, Addr.add] using this
          · simpa [addrOf, Addr.add, hj0] using this) (by have := h00.1; rw [block_of_add] at this; exact this) (by simpa using hn) (by simpa using hcap) (by rw [hm]; simpa using hl)
      rw [hm] at hj
      simp only [List.length_map] at hj
      refine hj.mono fun e w' ⟨h1, h2⟩ => ?_
      exact ⟨by simpa [AV.den] using h1, h2.os, h2.tape, h2.output, h2.size, h2.block⟩
def strAV (l : List (List UInt8)) : List AV := l.map .str
theorem strAV_den (l : List (List UInt8)) : denL (strAV l) = l.flatMap strV := by
  induction l with
  | nil => rfl
  | cons x l ih => simp only [strAV, List.map_cons, List.flatMap_cons, strV, denL, AV.den] at *; rw [ih]; rfl
theorem strAV_len (l : List (List UInt8)) : (strAV l).length = l.length := by simp [strAV]
/-- Joined out of a row of one's own. -/
theorem join_own (F : Heap) (v : Value) (l : List (List UInt8)) (sep : List UInt8) (t : TypeId) (m : List Blk) (hm : MemFits m [hpB F, ⟨addrOf v, strAV l, .row v t 1 l.length⟩]) (hl : (Lib.join l sep).length ≤ 140737488355328) (hn : l.length ≤ 140737488355328) (i : Nat) :
    NCall Tryz.prog 73 [.sl i v l.length, .str sep] m fun r m' => r = .str (Lib.join l sep) ∧ m' = m :=
  NCall.frozen (args' := [.hs v l.length, .str sep]) strV (join_c noHeap (.slice none 0 0) [] [] RowF.nil (by decide) (by decide)) rfl hm rfl (strAV_den l) (fun _ _ => rfl) fun G _ hr =>
    (join_c G v l sep hr hl hn).mono fun _ _ h => ⟨h.1, rfl⟩
end Go.Proofs.YtpkjnmddembkjaaGreatDoor

