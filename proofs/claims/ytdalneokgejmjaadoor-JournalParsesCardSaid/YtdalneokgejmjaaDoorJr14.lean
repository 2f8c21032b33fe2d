/-
  Journals, parsed by the program: a line.
-/
import Derived.Test.YtdalneokgejmjaaDoorJr14a
import Derived.Test.YtdalneokgejmjaaDoorJr14b
import Derived.Test.YtdalneokgejmjaaDoorJr14c
import Derived.Test.YtdalneokgejmjaaDoorJr14d
namespace Go.Proofs.YtdalneokgejmjaaDoor
open Go.Sx
set_option maxRecDepth 20000
set_option maxHeartbeats 8000000
set_option linter.unusedVariables false
/-- Four words. -/
theorem read36_four (F : Heap) (hF : TabF F) (hE : ErrF F) (hS : SpaceF F) (hW : WhiteF F) (s : List UInt8) (hs : s.length ≤ 5000) (w x y z : List UInt8) (hL : Lib.fieldsD s = [w, x, y, z]) (D : Bool) (T : List UInt8)
    (h0 : Jr.kindTo w 7 = 0 → D = false) (hT : 0 < Jr.kindTo w 7 → T = Jr.line ⟨Jr.kindTo w 7, Num.atv x, Num.atv y, Num.atv z⟩)
    (h1 : 0 < Jr.kindTo w 7 → T = s → Jr.okN (Num.atv x) → Jr.okN (Num.atv y) → Jr.okN (Num.atv z) → D = true)
    (h2 : ¬ (T = s ∧ Jr.okN (Num.atv x) ∧ Jr.okN (Num.atv y) ∧ Jr.okN (Num.atv z)) → D = false) :
    NCall Tryd.prog 14 [.str s] [hpB F] fun r m => r = .tup [.agg (if Jr.kindTo w 7 = 0 then [.int .i64 0, .int .i64 0, .int .i64 0, .int .i64 0] else [.int .i64 (Jr.kindTo w 7 : Nat), .int .i64 (Num.atv x), .int .i64 (Num.atv y), .int .i64 (Num.atv z)]), .bool D] ∧ MemFits m [hpB F] := by
  by_cases ck : Jr.kindTo w 7 = 0
  · exact read36_four_zero F hF hE hS hW s hs w x y z hL D T h0 hT h1 h2 ck
  have ck : 0 < Jr.kindTo w 7 := by omega
  by_cases cT : T = s
  · by_cases cp : Jr.okN (Num.atv x)
    · by_cases cq : Jr.okN (Num.atv y)
      · by_cases ct : Jr.okN (Num.atv z)
        · exact read36_four_all F hF hE hS hW s hs w x y z hL D T h0 hT h1 h2 ck cT cp cq ct
        · exact read36_four_t F hF hE hS hW s hs w x y z hL D T h0 hT h1 h2 ck cT cp cq ct
      · exact read36_four_q F hF hE hS hW s hs w x y z hL D T h0 hT h1 h2 ck cT cp cq
    · exact read36_four_p F hF hE hS hW s hs w x y z hL D T h0 hT h1 h2 ck cT cp
  · exact read36_four_line F hF hE hS hW s hs w x y z hL D T h0 hT h1 h2 ck cT
end Go.Proofs.YtdalneokgejmjaaDoor
