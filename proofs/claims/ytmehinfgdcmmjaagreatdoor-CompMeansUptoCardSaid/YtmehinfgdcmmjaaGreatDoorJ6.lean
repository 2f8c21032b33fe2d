import Derived.Test.YtmehinfgdcmmjaaGreatDoorJ5
import Derived.Lib.LaidTab
import Derived.MakeChecks
import Derived.Test.YtmehinfgdcmmjaaGreatDoorRows
import Derived.Test.YtmehinfgdcmmjaaGreatDoorProg
import Derived.Test.YtmehinfgdcmmjaaGreatDoorSxC
namespace Go.Proofs.YtmehinfgdcmmjaaGreatDoor
open Go.Sx
theorem laidVars_mem {P:Program} {w:World} {n:String} {d:DataW Unit}:∀ {l:List (String × DataW Unit)} {ps:List MemPlace},DataW.LaidVars P w l ps→(n,d)∈l →
  ∃ g t cs fuel p,P.globalNamed n=some g∧(P.globals[g]?).map (·.type)=some t∧w.var? P n=some cs∧DataW.trod (fun _=>()) P w 0 (fun _=>true) false fuel t cs.toList=some (d,p)
 | [],_,_,h=>by cases h
 | (n',d')::l,_,h,hm=>by
  obtain ⟨g,t,cs,fuel,p,q,h1,h2,h3,h4,h5,_⟩:=h
  rcases List.mem_cons.1 hm with e | hm
  ·cases e;exact ⟨g,t,cs,fuel,p,h1,h2,h3,h4⟩
  ·exact laidVars_mem h5 hm
theorem tabF_of {W:World} {l:List (String × DataW Unit)} (hp:(l.all fun x=>x.2.handleName?.isNone)=true) (h:laidMetH Tryz.prog l W)
  (hm : ("internal/strconv.uint64pow10", (Lib.tabData .u64 Lib.pow10Tab : DataW Unit)) ∈ l) : TabF (cellsW W) := by
 rw [MakeChecks.laidMetH_plain _ _ _ hp] at h
 obtain ⟨ps,h1,_⟩:=h
 obtain ⟨g,t,cs,fuel,p,hg,ht,hv,hd⟩:=laidVars_mem h1 hm
 have hg' : Tryz.prog.globalNamed "internal/strconv.uint64pow10" = some 0 := by kernel_rfl
 obtain rfl:=Option.some.inj (hg'.symm.trans hg)
 have ht':(Tryz.prog.globals[0]?).map (·.type)=some 279:=by kernel_rfl
 obtain rfl:=Option.some.inj (ht'.symm.trans ht)
 have hc:=Lib.cells_of_tab Tryz.underlying279 Tryz.underlying237 (by kernel_rfl) (by kernel_rfl) hd
 unfold World.var? at hv
 rw [hg'] at hv
 simp only [Option.bind_some] at hv
 split at hv
 ·rename_i cs' t fr e
  injection hv with hv
  subst hv
  refine ⟨t,fr,?_⟩
  show W.heap[0]?=_
  rw [e]
  have:cs'=(Lib.pow10Tab.map fun z=>Value.int .u64 z).toArray:=by rw [← hc]
  rw [this]
 ·cases hv
end Go.Proofs.YtmehinfgdcmmjaaGreatDoor
namespace Go.Proofs.YtmehinfgdcmmjaaGreatDoor
open Go.Sx
set_option maxRecDepth 20000
end Go.Proofs.YtmehinfgdcmmjaaGreatDoor
namespace Go.Proofs.YtmehinfgdcmmjaaGreatDoor
open Go.Sx
set_option maxRecDepth 20000
set_option linter.unusedVariables false
namespace Mt
end Mt
end Go.Proofs.YtmehinfgdcmmjaaGreatDoor
namespace Go.Proofs.YtmehinfgdcmmjaaGreatDoor
open Go.Sx
set_option maxRecDepth 20000
namespace Oct
end Oct
end Go.Proofs.YtmehinfgdcmmjaaGreatDoor
