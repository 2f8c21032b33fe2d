import Derived.Test.YtijkmhmgigaieaaTc5
namespace Go.Proofs.Ytijkmhmgigaieaa
open Go.Sx
set_option linter.unusedVariables false
namespace Tc
def E.Ok (e:E):Prop:=(-9223372036854775808≤e.kind∧e.kind≤9223372036854775807)∧(-9223372036854775808≤e.real∧e.real≤9223372036854775807)∧(-9223372036854775808≤e.u∧e.u≤9223372036854775807)∧(-9223372036854775808≤e.sw∧e.sw≤9223372036854775807)∧(-9223372036854775808≤e.x∧e.x≤9223372036854775807)∧(-9223372036854775808≤e.y∧e.y≤9223372036854775807)
end Tc
end Go.Proofs.Ytijkmhmgigaieaa
