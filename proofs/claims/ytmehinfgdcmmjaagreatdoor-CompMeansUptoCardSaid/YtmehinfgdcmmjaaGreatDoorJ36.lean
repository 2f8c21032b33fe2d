import Derived.Test.YtmehinfgdcmmjaaGreatDoorJ35
import Derived.Test.YtmehinfgdcmmjaaGreatDoorJ20
namespace Go.Proofs.YtmehinfgdcmmjaaGreatDoor
open Go.Sx
set_option maxRecDepth 20000
set_option linter.unusedVariables false
namespace Ps
open Lx (B toks nextB skip isL isD isS isSp)
def W (s:List UInt8):B:=⟨1,0,s⟩
def S (s:List UInt8):B:=⟨3,0,s⟩
def Nm (v:Int):B:=⟨2,v,[]⟩
end Ps
end Go.Proofs.YtmehinfgdcmmjaaGreatDoor
namespace Go.Proofs.YtmehinfgdcmmjaaGreatDoor
open Go.Sx
set_option maxRecDepth 20000
set_option linter.unusedVariables false
set_option linter.unusedSimpArgs false
namespace Ps
open Lx (B)
end Ps
end Go.Proofs.YtmehinfgdcmmjaaGreatDoor
namespace Go.Proofs.YtmehinfgdcmmjaaGreatDoor
open Go.Sx
set_option maxRecDepth 20000
set_option linter.unusedVariables false
namespace Ps
open Lx (B)
end Ps
end Go.Proofs.YtmehinfgdcmmjaaGreatDoor
namespace Go.Proofs.YtmehinfgdcmmjaaGreatDoor
open Go.Sx
set_option maxRecDepth 20000
set_option linter.unusedVariables false
namespace Ps
open Lx (B)
theorem toks_of {t:List UInt8} {ls:List B} (h:bs t=some ls):∃ L,Lx.toks t=some L∧L.map (·.1)=ls:=by
 unfold bs at h
 cases ht:Lx.toks t with
 | none=>rw [ht] at h;cases h
 | some L =>
  rw [ht] at h
  injection h with h
  exact ⟨L,rfl,h⟩
end Ps
end Go.Proofs.YtmehinfgdcmmjaaGreatDoor
