import Derived.Test.YtgphhbadnjfbjaaDoorSu17
namespace Go.Proofs.YtgphhbadnjfbjaaDoor
open Go.Sx
set_option maxRecDepth 20000
set_option linter.unusedVariables false
namespace Su
def LkOk (x:Lk):Prop:=w64 x.a∧w64 x.pa∧w64 x.b∧w64 x.pb∧w64 x.lo∧w64 x.hi
def HsOk (x:Hs):Prop:=w64 x.at_∧w64 x.port
def WtOk (F:Heap) (p:List Nat × Value):Prop:=Hexs F p.2 p.1∧∀ n∈p.1,n<18446744073709551616
theorem at_of {F:Heap} {lv hv wv sv:Value} {ll:List Lk} {hl:List Hs} {ps:List (List Nat × Value)} {st:List Int} {sw a b d e f g:Int} (h1:Links F lv ll) (h2:Hosts F hv hl) (h3:RowF F 1 (fun x us=>us=wtV x) wv ps) (h4:∀ p∈ps,WtOk F p) (h5:Ints F sv st) :
    At F ⟨sw,ll,hl,ps.map (·.1),st,a,b,d,e,f,g⟩ lv hv wv sv:=⟨h1,h2,⟨ps,rfl,h3,fun p hp=>(h4 p hp).1⟩,h5⟩
end Su
end Go.Proofs.YtgphhbadnjfbjaaDoor
