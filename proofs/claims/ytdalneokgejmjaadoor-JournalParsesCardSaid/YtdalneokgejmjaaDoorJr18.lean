/-
  Journals: what is parsed is the document's, and what may be told is parsed as it was.
-/
import Derived.Test.YtdalneokgejmjaaDoorJr16
import Derived.Test.YtdalneokgejmjaaDoorJr17
import Derived.Test.YtdalneokgejmjaaDoorJr5
import Derived.Test.YtdalneokgejmjaaDoorJr13
namespace Go.Proofs.YtdalneokgejmjaaDoor
open Go.Sx
set_option maxRecDepth 20000
set_option maxHeartbeats 4000000
set_option linter.unusedVariables false
namespace Jr
/-- What both texts hand back: the records, the line, the error. -/
def got (R : List Rec × Bool) : List Rec := if R.2 then R.1 else []
def gotN (R : List Rec × Bool) : Int := if R.2 then 0 else R.1.length + 1
def gotE (R : List Rec × Bool) : Int := if R.2 then 0 else 10
theorem parse_len : ∀ (f : Nat) (out : List Rec) (s : List UInt8), (parse f out s).1.length ≤ out.length + f
  | 0, out, s => by simp [parse]
  | f + 1, out, s => by
    unfold parse
    split
    · dsimp only; omega
    · cases hr : rd (s.take (cut s)) with
      | none => dsimp only; omega
      | some r =>
        have := parse_len f (out ++ [r]) (s.drop (cut s))
        rw [List.length_append, List.length_singleton] at this
        dsimp only
        omega
end Jr
theorem parse36_u (F : Heap) (hF : TabF F) (hE : ErrF F) (hS : SpaceF F) (hW : WhiteF F) (s : List UInt8) (hs : s.length ≤ 5000) (R : List Jr.Rec × Bool) (hR : Jr.parse s.length [] s = R) :
    NCall Tryd.prog 5 [.str s] [hpB F] fun r m => ∃ F' v, F.le F' ∧ r = .tup [.hs v (Jr.got R).length, .int .i64 (Jr.gotN R), .int .i64 (Jr.gotE R)] ∧ m = [hpB F'] ∧ Jr.Row F' v (Jr.got R) := by
  refine (parse36_c F hF hE hS hW s hs R hR).mono fun r m h => ?_
  rcases h with ⟨hb, F', v, h1, h2, h3, h4⟩ | ⟨hb, h2, h3⟩
  · refine ⟨F', v, h1, ?_, h2, ?_⟩
    · unfold Jr.got Jr.gotN Jr.gotE; rw [hb]; exact h3
    · unfold Jr.got; rw [hb]; exact h4
  · refine ⟨F, .slice none 0 0, F.le_refl, ?_, h2, ?_⟩
    · unfold Jr.got Jr.gotN Jr.gotE; rw [hb]; exact h3
    · unfold Jr.got; rw [hb]; exact RowF.nil
theorem refparse36_u (F : Heap) (s : List UInt8) (hs : s.length ≤ 5000) (R : List Jr.Rec × Bool) (hR : Jr.parse s.length [] s = R) :
    NCall Tryd.prog 6 [.str s] [hpB F] fun r m => ∃ F' v, F.le F' ∧ r = .tup [.hs v (Jr.got R).length, .int .i64 (Jr.gotN R), .int .i64 (Jr.gotE R)] ∧ m = [hpB F'] ∧ Jr.Row F' v (Jr.got R) := by
  refine (refparse36_c F s hs R hR).mono fun r m h => ?_
  rcases h with ⟨hb, F', v, h1, h2, h3, h4⟩ | ⟨hb, h2, h3⟩
  · refine ⟨F', v, h1, ?_, h2, ?_⟩
    · unfold Jr.got Jr.gotN Jr.gotE; rw [hb]; exact h3
    · unfold Jr.got; rw [hb]; exact h4
  · refine ⟨F, .slice none 0 0, F.le_refl, ?_, h2, ?_⟩
    · unfold Jr.got Jr.gotN Jr.gotE; rw [hb]; exact h3
    · unfold Jr.got; rw [hb]; exact RowF.nil
end Go.Proofs.YtdalneokgejmjaaDoor
