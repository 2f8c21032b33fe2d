/-
  What may be is parsed, and read, as it was told; what was put is got, and all else stays.
-/
import Derived.Test.YtokbckflleaplaaDoorPk9a
import Derived.Test.YtokbckflleaplaaDoorPk9b
import Derived.Test.YtokbckflleaplaaDoorPk9c
import Derived.Test.YtokbckflleaplaaDoorPk9d
namespace Go.Proofs.YtokbckflleaplaaDoor
open Go.Sx
set_option maxRecDepth 20000
set_option maxHeartbeats 8000000
set_option linter.unusedVariables false
theorem packetBack_c (F : Heap) (hF : TabF F) (hE : ErrF F) (p : Ac.P4) (hp : Pk.in64 p) (f v g : Int) : NCall Tryd.prog 13 [.agg p.av, .int .i64 f, .int .i64 v, .int .i64 g] [hpB F] fun r _ => r = .bool true := by
  by_cases ho : Pk.okP p
  · by_cases hv : Ac.valid f v
    · by_cases hg : g = f
      · rcases field4 ⟨hv.1, hv.2.1⟩ with h | h | h | h
        · exact back_0_s F hF hE p hp ho f v g h hv hg
        · exact back_1_s F hF hE p hp ho f v g h hv hg
        · exact back_2_s F hF hE p hp ho f v g h hv hg
        · exact back_3_s F hF hE p hp ho f v g h hv hg
      · rcases field4 ⟨hv.1, hv.2.1⟩ with h | h | h | h
        · exact back_0_o F hF hE p hp ho f v g h hv hg
        · exact back_1_o F hF hE p hp ho f v g h hv hg
        · exact back_2_o F hF hE p hp ho f v g h hv hg
        · exact back_3_o F hF hE p hp ho f v g h hv hg
    · exact back_not F hF hE p hp ho f v g hv
  · exact back_bad F hF hE p hp ho f v g
end Go.Proofs.YtokbckflleaplaaDoor
