import Derived.Test.YtijkmhmgigaieaaSxK
import Derived.Test.YtijkmhmgigaieaaProg
namespace Go.Proofs.Ytijkmhmgigaieaa
open Go.Sx
set_option maxRecDepth 20000
set_option maxHeartbeats 4000000
set_option linter.unusedVariables false
namespace Tp
structure Lk where
  a:Int
  pa:Int
  b:Int
  pb:Int
  least:Int
  most:Int
structure Hs where
  at_:Int
  port:Int
structure T where
  n:Int
  ls:List Lk
  hs:List Hs
def lkV (x:Lk):List Value:=[.int .i64 x.a,.int .i64 x.pa,.int .i64 x.b,.int .i64 x.pb,.int .i64 x.least,.int .i64 x.most]
def hsV (x:Hs):List Value:=[.int .i64 x.at_,.int .i64 x.port]
abbrev LRow (F:Heap) (v:Value) (l:List Lk):Prop:=RowF F 6 (fun x us=>us=lkV x) v l
abbrev HRow (F:Heap) (v:Value) (l:List Hs):Prop:=RowF F 2 (fun x us=>us=hsV x) v l
structure At (F:Heap) (t:T) (lv hv:Value):Prop where
  l:LRow F lv t.ls
  h:HRow F hv t.hs
theorem LRow.mono {F G:Heap} (h:F.le G) {v:Value} {l:List Lk} (hv:LRow F v l):LRow G v l:=RowF.mono h (fun _ _ hp=>hp) hv
theorem HRow.mono {F G:Heap} (h:F.le G) {v:Value} {l:List Hs} (hv:HRow F v l):HRow G v l:=RowF.mono h (fun _ _ hp=>hp) hv
theorem At.mono {F G:Heap} (h:F.le G) {t:T} {lv hv:Value} (ht:At F t lv hv):At G t lv hv:=⟨LRow.mono h ht.l,HRow.mono h ht.h⟩
def cs (t:T) (lv hv:Value):List AV:=[.int .i64 t.n,.hs lv t.ls.length,.hs hv t.hs.length]
theorem LRow.get {F:Heap} {v:Value} {l:List Lk} (h:LRow F v l) {i:Nat} {x:Lk} (hx:l[i]?=some x) :
    F.c ((addrOf v).add (i*6)) (.int .i64 x.a)∧F.c ((addrOf v).add (i*6+1)) (.int .i64 x.pa)∧F.c ((addrOf v).add (i*6+2)) (.int .i64 x.b)∧F.c ((addrOf v).add (i*6+3)) (.int .i64 x.pb)∧F.c ((addrOf v).add (i*6+4)) (.int .i64 x.least)∧F.c ((addrOf v).add (i*6+5)) (.int .i64 x.most):=by
  obtain ⟨us,rfl,_,h2⟩:=h.at_ i x hx
  simp only [lkV,CellsF,Nat.add_assoc,Nat.reduceAdd] at h2
  obtain ⟨c0,c1,c2,c3,c4,c5,_⟩:=h2
  exact ⟨c0,c1,c2,c3,c4,c5⟩
theorem HRow.get {F:Heap} {v:Value} {l:List Hs} (h:HRow F v l) {i:Nat} {x:Hs} (hx:l[i]?=some x) :
    F.c ((addrOf v).add (i*2)) (.int .i64 x.at_)∧F.c ((addrOf v).add (i*2+1)) (.int .i64 x.port):=by
  obtain ⟨us,rfl,_,h2⟩:=h.at_ i x hx
  simp only [hsV,CellsF] at h2
  obtain ⟨c0,c1,_⟩:=h2
  exact ⟨c0,c1⟩
end Tp
section
variable (F:Heap)
end
end Go.Proofs.Ytijkmhmgigaieaa
