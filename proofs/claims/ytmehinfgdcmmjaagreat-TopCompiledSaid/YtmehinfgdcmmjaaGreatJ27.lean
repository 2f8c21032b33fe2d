import Derived.Test.YtmehinfgdcmmjaaGreatJ2
import Derived.Test.YtmehinfgdcmmjaaGreatJ26
import Derived.Test.YtmehinfgdcmmjaaGreatJ23
import Derived.Test.YtmehinfgdcmmjaaGreatJ20
namespace Go.Proofs.YtmehinfgdcmmjaaGreat
open Go.Sx
set_option maxRecDepth 20000
set_option linter.unusedVariables false
namespace Po
end Po
namespace Ps
open Lx (B toks nextB skip isL isD isS isSp)
end Ps
namespace Ps
open Lx (B toks nextB skip isL isD isS isSp)
def S (s:List UInt8):B:=⟨3,0,s⟩
end Ps
set_option linter.unusedSimpArgs false
namespace Ps
open Lx (B)
end Ps
end Go.Proofs.YtmehinfgdcmmjaaGreat
