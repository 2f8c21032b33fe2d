/-
  Matches, walked: which lie within which; those of one field alone.
-/
import Derived.Test.YtlcleiekeapkdaaMt2
namespace Go.Proofs.Ytlcleiekeapkdaa
open Go.Sx
set_option maxRecDepth 20000
deriving instance DecidableEq for Mt.N
instance (a b : Mt.N) : Decidable (Mt.within a b) := by unfold Mt.within; infer_instance
theorem boolIff {x : Bool} {p : Prop} {_ : Decidable p} (h : x = true ↔ p) : AV.bool x = .bool (decide p) := by
  cases x with
  | true => exact boolT (h.1 rfl)
  | false => exact boolF fun hp => by cases h.2 hp
end Go.Proofs.Ytlcleiekeapkdaa

