/-
  Statements that draw their order: what is read alone is read first.
-/
import Derived.Test.YtlcleiekeapkdaaSxC
import Derived.OrdersHeld
namespace Go.Sx
section
variable {P : Program}
def HpS (F : Heap) (w : World) : Prop := (hpB F).holds w
theorem HpS.mem {F : Heap} {w : World} (h : HpS F w) : MemOk [hpB F] w := ⟨fun k hk => by rw [List.mem_singleton.1 hk]; exact h, List.pairwise_singleton _ _⟩
section
variable {F : Heap} {l : List Oper} {n i : Nat} {done : List Nat} {sl : List AV} {m : List Blk} {k : List AV → List Blk → Prop}
end
end
end Go.Sx

