import Derived.Test.YtmehinfgdcmmjaaGreatDoorSxC
import Derived.Test.YtmehinfgdcmmjaaGreatDoorJ21
import Derived.Test.YtmehinfgdcmmjaaGreatDoorJ8
import Derived.Test.YtmehinfgdcmmjaaGreatDoorJ17
import Derived.Test.YtmehinfgdcmmjaaGreatDoorJ18
namespace Go.Proofs.YtmehinfgdcmmjaaGreatDoor
open Go.Sx
theorem NCall.grow {α:Type} {P:Program} {f:FuncId} {args:List AV} {m:List Blk} {F:Heap} {t:TypeId} {sz:Nat} (enc:α→List Value) (cs:List α→List AV) (K:List α→Prop)
  (h:NCall P f args m fun r m'=>∃ u l,K l∧r.den=slOf u∧MemFits m' [hpB F,⟨addrOf u,cs l,.row u t sz l.length⟩]) (hcs:∀ l,denL (cs l)=l.flatMap enc) (hsz:∀ x,(enc x).length=sz) :
  NCall P f args m fun r m'=>∃ F' u l,K l∧F.le F'∧r = .hs u l.length∧m'=[hpB F']∧RowF F' sz (fun x us=>us=enc x) u l:=by
 refine Go.Sx.NCall.know h fun r m' ⟨u,l,hK,hr,hm⟩ ⟨w,hw⟩=>?_
 have hok:=((hm w hw).1.row (List.mem_cons_of_mem _ (List.mem_singleton.2 rfl))).1
 exact ⟨.hs u l.length,_,hr.symm,hm.trans (MemFits.freeze (m:=[])),_,u,l,hK,addF.old,rfl,rfl,rowF_new hok (hcs l) fun x _=>hsz x⟩
end Go.Proofs.YtmehinfgdcmmjaaGreatDoor
namespace Go.Proofs.YtmehinfgdcmmjaaGreatDoor
open Go.Sx
set_option maxRecDepth 20000
set_option linter.unusedSimpArgs false
set_option linter.unusedVariables false
set_option maxHeartbeats 4000000
set_option linter.unusedVariables false
end Go.Proofs.YtmehinfgdcmmjaaGreatDoor
namespace Go.Sx
set_option linter.unusedVariables false
section
variable {P:Program}
end
end Go.Sx
namespace Go.Proofs.YtmehinfgdcmmjaaGreatDoor
open Go.Sx
set_option maxRecDepth 20000
set_option linter.unusedSimpArgs false
set_option linter.unusedVariables false
set_option maxHeartbeats 16000000
set_option linter.unusedVariables false
namespace Tr
end Tr
end Go.Proofs.YtmehinfgdcmmjaaGreatDoor
