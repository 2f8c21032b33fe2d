/-
  Numerals and joined texts: the library's contracts, over what is read alone.
-/
import Derived.Test.YtdalneokgejmjaaDoorLay
import Derived.Lib.Join
import Derived.Test.YtdalneokgejmjaaDoorSxC
namespace Go.Proofs.YtdalneokgejmjaaDoor
open Go.Sx
/-- The library's table of powers of ten. -/
def TabF (F : Heap) : Prop := ∃ t fr, F.o 5 (.cells (Lib.pow10Tab.map fun z => Value.int .u64 z).toArray t fr)
theorem TabF.mono {F G : Heap} (h : F.le G) (hF : TabF F) : TabF G := by
  obtain ⟨t, fr, h1⟩ := hF
  exact ⟨t, fr, h.o _ _ h1⟩
theorem MemOk.heapO {F : Heap} {w : World} (h : MemOk [hpB F] w) {b : Nat} {o : Obj} (ho : F.o b o) : w.heap[b]? = some o :=
  (h.holds (hpB F) (by simp)).2.2 b o ho
theorem tab_is {F : Heap} (hF : TabF F) {w : World} (h : MemOk [hpB F] w) : Lib.TabIs Tryd.prog w "internal/strconv.uint64pow10" .u64 Lib.pow10Tab := by
  obtain ⟨t, fr, h1⟩ := hF
  have h2 := MemOk.heapO h h1
  have hg : Tryd.prog.globalNamed "internal/strconv.uint64pow10" = some 5 := by kernel_rfl
  unfold Lib.TabIs World.var?
  rw [hg]
  simp only [Option.bind_some, h2]
theorem itoa_c (F : Heap) (hF : TabF F) (n : Int) (hn : -9223372036854775808 ≤ n ∧ n ≤ 9223372036854775807) : NCall Tryd.prog 29 [.int .i64 n] [hpB F] fun r m => r = .str (Lib.itoa n) ∧ m = [hpB F] := by
  refine ncall_below (Go.Sx.enters_of Tryd.func29 rfl (by decide)) fun w hw => ?_
  refine (Tryd.strconv_Itoa n hn.1 hn.2 w (tab_is hF hw)).mono fun e w' ⟨h1, k, os, h2⟩ => ?_
  subst h2
  refine ⟨h1, rfl, rfl, rfl, by simp [Sort.grow, World.drewN], fun b hb => ?_⟩
  simp [Sort.grow, World.drewN, Array.getElem?_append_left hb]
/-- A text's cell. -/
def strV (x : List UInt8) : List Value := [.string ⟨x.toArray⟩]
def strAV (l : List (List UInt8)) : List AV := l.map .str
theorem strAV_den (l : List (List UInt8)) : denL (strAV l) = l.flatMap strV := by
  induction l with
  | nil => rfl
  | cons x l ih => simp only [strAV, List.map_cons, List.flatMap_cons, strV, denL, AV.den] at *; rw [ih]; rfl
theorem strAV_len (l : List (List UInt8)) : (strAV l).length = l.length := by simp [strAV]
theorem ones_str (l : List (List UInt8)) : ones (strAV l) = true := by
  induction l with
  | nil => rfl
  | cons x l ih => simpa [strAV, ones] using ih
theorem str_reads {F : Heap} {v : Value} {l : List (List UInt8)} (h : RowF F 1 (fun x vs => vs = strV x) v l) : (strAV l).length = l.length * 1 ∧ CellsF F (addrOf v) 0 (denL (strAV l)) := by
  rw [strAV_den]
  exact ⟨by rw [strAV_len]; omega, h.all.1⟩
theorem join_len {xs : List (List UInt8)} {sep : List UInt8} {B : Nat} (h : ∀ x ∈ xs, x.length ≤ B) : (Lib.join xs sep).length ≤ xs.length * (B + sep.length) := by
  have key : ∀ r : List (List UInt8), (∀ x ∈ r, x.length ≤ B) → (Lib.joinTail sep r).length ≤ r.length * (B + sep.length) := by
    intro r
    induction r with
    | nil => intro _; simp [Lib.joinTail]
    | cons y r ih =>
      intro hr
      have h1 := ih fun x hx => hr x (List.mem_cons_of_mem _ hx)
      have h2 := hr y (by simp)
      have e : Lib.joinTail sep (y :: r) = (sep ++ y) ++ Lib.joinTail sep r := by simp [Lib.joinTail]
      rw [e, List.length_append, List.length_append, List.length_cons, Nat.add_mul, Nat.one_mul]
      omega
  cases xs with
  | nil => simp [Lib.join, List.intercalate]
  | cons x r =>
    have h1 := key r fun y hy => h y (List.mem_cons_of_mem _ hy)
    have h2 := h x (by simp)
    rw [Lib.join_cons, List.length_append, List.length_cons, Nat.add_mul, Nat.one_mul]
    omega
end Go.Proofs.YtdalneokgejmjaaDoor
