import Derived.Test.YtgphhbadnjfbjaaDoorLay
import Derived.Lib.Join
import Derived.Test.YtgphhbadnjfbjaaDoorSxC
namespace Go.Proofs.YtgphhbadnjfbjaaDoor
open Go.Sx
def TabF (F:Heap):Prop:=∃ t fr,F.o 2 (.cells (Lib.pow10Tab.map fun z=>Value.int .u64 z).toArray t fr)
theorem TabF.mono {F G:Heap} (h:F.le G) (hF:TabF F):TabF G:=by
  obtain ⟨t,fr,h1⟩:=hF
  exact ⟨t,fr,h.o _ _ h1⟩
theorem MemOk.heapO {F:Heap} {w:World} (h:MemOk [hpB F] w) {b:Nat} {o:Obj} (ho:F.o b o):w.heap[b]?=some o :=
  (h.holds (hpB F) (by simp)).2.2 b o ho
theorem tab_is {F : Heap} (hF : TabF F) {w : World} (h : MemOk [hpB F] w) : Lib.TabIs Tryd.prog w "internal/strconv.uint64pow10" .u64 Lib.pow10Tab := by
  obtain ⟨t,fr,h1⟩:=hF
  have h2:=MemOk.heapO h h1
  have hg : Tryd.prog.globalNamed "internal/strconv.uint64pow10" = some 2 := by kernel_rfl
  unfold Lib.TabIs World.var?
  rw [hg]
  simp only [Option.bind_some,h2]
theorem itoa_c (F:Heap) (hF:TabF F) (n:Int) (hn : -9223372036854775808≤n∧n≤9223372036854775807):NCall Tryd.prog 47 [.int .i64 n] [hpB F] fun r m=>r = .str (Lib.itoa n)∧m=[hpB F]:=by
  refine ncall_below (Go.Sx.enters_of Tryd.func47 rfl (by decide)) fun w hw=>?_
  refine (Tryd.strconv_Itoa n hn.1 hn.2 w (tab_is hF hw)).mono fun e w' ⟨h1,k,os,h2⟩=>?_
  subst h2
  refine ⟨h1,rfl,rfl,rfl,by simp [Sort.grow,World.drewN],fun b hb=>?_⟩
  simp [Sort.grow,World.drewN,Array.getElem?_append_left hb]
def strV (x:List UInt8):List Value:=[.string ⟨x.toArray⟩]
def strAV (l:List (List UInt8)):List AV:=l.map .str
theorem strAV_den (l:List (List UInt8)):denL (strAV l)=l.flatMap strV:=by
  induction l with
  | nil=>rfl
  | cons x l ih=>simp only [strAV,List.map_cons,List.flatMap_cons,strV,denL,AV.den] at *;rw [ih];rfl
end Go.Proofs.YtgphhbadnjfbjaaDoor
