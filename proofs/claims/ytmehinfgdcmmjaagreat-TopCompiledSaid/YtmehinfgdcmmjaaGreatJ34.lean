import Derived.Test.YtmehinfgdcmmjaaGreatJ15
import Derived.Test.YtmehinfgdcmmjaaGreatJ20
import Derived.Test.YtmehinfgdcmmjaaGreatJ21
import Derived.Test.YtmehinfgdcmmjaaGreatJ17
namespace Go.Proofs.YtmehinfgdcmmjaaGreat
open Go.Sx
set_option maxRecDepth 20000
set_option maxHeartbeats 4000000
set_option linter.unusedVariables false
namespace Tr
theorem hit_eq (t:Po.S) (c:C):hit t c=(decide (c.s.p0 = -1∨c.s.p0=t.p0)&&(decide (c.s.p1 = -1∨c.s.p1=t.p1)&&(decide (c.s.p2 = -1∨c.s.p2=t.p2)&&(decide (c.s.p3 = -1∨c.s.p3=t.p3)&&decide (c.s.port = -1∨c.s.port=t.port))))):=by
 rw [Bool.eq_iff_iff]
 simp only [hit,decide_eq_true_eq,Bool.and_eq_true]
 constructor
 ·intro h
  exact ⟨h 0 (by decide),h 1 (by decide),h 2 (by decide),h 3 (by decide),h 4 (by decide)⟩
 ·rintro ⟨h0,h1,h2,h3,h4⟩ f hf
  simp only [order,List.mem_cons,List.not_mem_nil,or_false] at hf
  rcases hf with rfl | rfl | rfl | rfl | rfl
  ·exact h4
  ·exact h0
  ·exact h1
  ·exact h2
  ·exact h3
end Tr
namespace Pd
end Pd
end Go.Proofs.YtmehinfgdcmmjaaGreat
