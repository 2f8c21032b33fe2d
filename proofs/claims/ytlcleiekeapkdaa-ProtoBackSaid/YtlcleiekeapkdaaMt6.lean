/-
  Matches: the chapter's examples; who is hit by both is hit by their meeting.
-/
import Derived.Test.YtlcleiekeapkdaaMt5
import Derived.Test.YtlcleiekeapkdaaCard
namespace Go.Proofs.Ytlcleiekeapkdaa
open Go.Sx
set_option maxRecDepth 20000
theorem in64_of {p v0 v1 v2 v3 m0 m1 m2 m3 : Int} (h : Mt.i64 p) (h0 : Mt.i64 v0) (h1 : Mt.i64 v1) (h2 : Mt.i64 v2) (h3 : Mt.i64 v3) (k0 : Mt.i64 m0) (k1 : Mt.i64 m1) (k2 : Mt.i64 m2) (k3 : Mt.i64 m3) : (⟨p, v0, v1, v2, v3, m0, m1, m2, m3⟩ : Mt.M).in64 :=
  ⟨h, all4.2 ⟨⟨h0, k0⟩, ⟨h1, k1⟩, ⟨h2, k2⟩, h3, k3⟩⟩
end Go.Proofs.Ytlcleiekeapkdaa

