/-
  Matches, walked: whom they hit, how they meet.
-/
import Derived.Test.YtlcleiekeapkdaaMt1
namespace Go.Proofs.Ytlcleiekeapkdaa
open Go.Sx
set_option maxRecDepth 20000
set_option linter.unusedVariables false
theorem all4 {p : Nat → Prop} : (∀ f, f < 4 → p f) ↔ p 0 ∧ p 1 ∧ p 2 ∧ p 3 := by
  constructor
  · exact fun h => ⟨h 0 (by decide), h 1 (by decide), h 2 (by decide), h 3 (by decide)⟩
  · rintro ⟨h0, h1, h2, h3⟩ f hf
    match f with
    | 0 => exact h0
    | 1 => exact h1
    | 2 => exact h2
    | 3 => exact h3
    | (k + 4) => exact absurd hf (by omega)
end Go.Proofs.Ytlcleiekeapkdaa

