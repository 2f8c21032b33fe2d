import Derived.Test.YtgphhbadnjfbjaaDoorSxJ
namespace Go.Sx
set_option maxRecDepth 20000
set_option linter.unusedVariables false
structure OwnR where
  v:Value
  cs:List AV
  t:TypeId
  sz:Nat
  n:Nat
def OwnR.blk (x:OwnR):Blk:=⟨addrOf x.v,x.cs,.row x.v x.t x.sz x.n⟩
def addLs (F:Heap):List OwnR→Heap
  | []=>F
  | x::l=>addLs (addF F (addrOf x.v) (denL x.cs)) l
theorem addLs.old:∀ {l:List OwnR} {F:Heap},F.le (addLs F l)
  | [],F=>F.le_refl
  | x::l,F=>addF.old.trans (addLs.old (l:=l))
theorem addLs.row {α:Type} {enc:α→List Value} {sz:Nat}:∀ {l:List OwnR} {F:Heap} {x:OwnR} {ps:List α},x∈l→SlOk x.v ps.length→denL x.cs=ps.flatMap enc→(∀ p∈ps,(enc p).length=sz)→RowF (addLs F l) sz (fun p us=>us=enc p) x.v ps
  | y::l,F,x,ps,hx,hok,he,hl=>by
    rcases List.mem_cons.1 hx with rfl | hx
    · exact RowF.mono (addLs.old (l:=l)) (fun _ _ h=>h) (rowF_new hok he hl)
    · exact addLs.row (l:=l) hx hok he hl
theorem MemFits.frzL {m:List Blk}:∀ (l:List OwnR) {F:Heap},MemFits (hpB F::(l.map OwnR.blk++m)) (hpB (addLs F l)::m)
  | [],F=>MemFits.eq rfl
  | x::l,F=>(MemFits.freeze (m:=l.map OwnR.blk++m)).trans (MemFits.frzL l)
end Go.Sx
