import Derived.Test.YtaojbkphcnailaaDoorJ4
import Derived.Sort.OwnSortedInts
import Derived.Lib.SlicesCompact
import Derived.Test.YtaojbkphcnailaaDoorSxC
import Derived.Test.YtaojbkphcnailaaDoorJ8
namespace Go.Proofs.YtaojbkphcnailaaDoor
open Go.Sx
set_option linter.unusedVariables false
set_option maxRecDepth 20000
namespace Srt
end Srt
namespace Srt
end Srt
namespace Srt
end Srt
end Go.Proofs.YtaojbkphcnailaaDoor
namespace Go.Proofs.YtaojbkphcnailaaDoor
open Go.Sx
set_option maxRecDepth 20000
set_option linter.unusedSimpArgs false
set_option linter.unusedVariables false
set_option maxHeartbeats 4000000
set_option linter.unusedVariables false
section
variable (F:Heap)
end
end Go.Proofs.YtaojbkphcnailaaDoor
