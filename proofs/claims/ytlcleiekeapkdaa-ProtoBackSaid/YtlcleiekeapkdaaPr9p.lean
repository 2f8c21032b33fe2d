/-
  Messages, read: what is read. Plain.
-/
import Derived.Test.YtlcleiekeapkdaaPr8
namespace Go.Proofs.Ytlcleiekeapkdaa
open Go.Sx
set_option maxRecDepth 20000
set_option linter.unusedVariables false
namespace Pr
open Oct (R)
def mdX (r : R) : Md := ⟨(r.num 1).1, Ru.rdX 8 (r.num 1).2.flag.2, (r.num 1).2.flag.1⟩
def mdE (r : R) : R := Ru.rdE 8 (r.num 1).2.flag.2
def mdsE (r : R) : Nat → R
  | 0 => r
  | k + 1 => mdE (mdsE r k)
def mdsL (r : R) : Nat → List Md
  | 0 => []
  | k + 1 => mdsL r k ++ [mdX (mdsE r k)]
def e1 (k : Int) (r : R) : R := if k = 1 ∨ k = 2 then r.int.2 else r
def e2 (k : Int) (r : R) : R := if k = 2 ∨ k = 4 then (e1 k r).int.2 else e1 k r
def e3 (k : Int) (r : R) : R := if k = 2 ∨ k = 7 ∨ k = 8 then ((e2 k r).num 2).2 else e2 k r
def e4 (k : Int) (r : R) : R := if 3 ≤ k ∧ k ≤ 8 then ((e3 k r).num 2).2 else e3 k r
def e5 (k : Int) (r : R) : R := if (3 ≤ k ∧ k ≤ 8) ∧ k ≠ 6 then ((e4 k r).num 1).2 else e4 k r
def e6 (k : Int) (r : R) : R := if k = 7 ∨ k = 8 then ((e5 k r).num 1).2 else e5 k r
def e7 (k : Int) (r : R) : R := if k = 6 ∨ k = 8 then ((e6 k r).num 1).2 else e6 k r
def e8 (k : Int) (r : R) : R := if k = 3 then mdsE ((e7 k r).count 16).2 (Ac.cnt (e7 k r)) else e7 k r
def modsV (k : Int) (r : R) : List Md := if k = 3 then mdsL ((e7 k r).count 16).2 (Ac.cnt (e7 k r)) else []
/-- What is read behind the kind and the switch. -/
def msV (k sw : Int) (r : R) : Ms :=
  ⟨k, sw, if 3 ≤ k ∧ k ≤ 8 then ((e3 k r).num 2).1 else 0, if (3 ≤ k ∧ k ≤ 8) ∧ k ≠ 6 then (((e4 k r).num 1).1 : Int) - 1 else 0, if k = 1 ∨ k = 2 then r.int.1 else 0, if k = 2 ∨ k = 4 then (e1 k r).int.1 else 0,
    if k = 2 ∨ k = 7 ∨ k = 8 then ((e2 k r).num 2).1 else 0, if k = 7 ∨ k = 8 then ((e5 k r).num 1).1 else 0, if k = 6 ∨ k = 8 then ((e6 k r).num 1).1 else 0, modsV k r⟩
theorem int_keeps {r : R} (h : r.ok) : r.int.2.ok := Oct.R.take_keeps h
theorem flag_keeps {r : R} (h : r.ok) : r.flag.2.ok := by
  unfold Oct.R.flag
  dsimp only
  split
  · exact Oct.R.wrong_ok (Oct.R.num_keeps h) (by decide)
  · exact Oct.R.num_keeps h
theorem mdE_ok {r : R} (h : r.ok) : (mdE r).ok := Ru.rdE_ok (flag_keeps (Oct.R.num_keeps h))
theorem mdsE_ok {r : R} (h : r.ok) : ∀ k, (mdsE r k).ok
  | 0 => h
  | k + 1 => mdE_ok (mdsE_ok h k)
theorem e1_ok {k : Int} {r : R} (h : r.ok) : (e1 k r).ok := by unfold e1; split <;> first | exact int_keeps h | exact h
theorem e2_ok {k : Int} {r : R} (h : r.ok) : (e2 k r).ok := by unfold e2; split <;> first | exact int_keeps (e1_ok h) | exact e1_ok h
theorem e3_ok {k : Int} {r : R} (h : r.ok) : (e3 k r).ok := by unfold e3; split <;> first | exact Oct.R.num_keeps (e2_ok h) | exact e2_ok h
theorem e4_ok {k : Int} {r : R} (h : r.ok) : (e4 k r).ok := by unfold e4; split <;> first | exact Oct.R.num_keeps (e3_ok h) | exact e3_ok h
theorem e5_ok {k : Int} {r : R} (h : r.ok) : (e5 k r).ok := by unfold e5; split <;> first | exact Oct.R.num_keeps (e4_ok h) | exact e4_ok h
theorem e6_ok {k : Int} {r : R} (h : r.ok) : (e6 k r).ok := by unfold e6; split <;> first | exact Oct.R.num_keeps (e5_ok h) | exact e5_ok h
theorem e7_ok {k : Int} {r : R} (h : r.ok) : (e7 k r).ok := by unfold e7; split <;> first | exact Oct.R.num_keeps (e6_ok h) | exact e6_ok h
theorem e8_ok {k : Int} {r : R} (h : r.ok) : (e8 k r).ok := by unfold e8; split <;> first | exact mdsE_ok (Ac.count_ok (e7_ok h)) _ | exact e7_ok h
theorem mdsL_len (r : R) : ∀ k, (mdsL r k).length = k
  | 0 => rfl
  | k + 1 => by rw [mdsL, List.length_append, mdsL_len r k]; rfl
end Pr
end Go.Proofs.Ytlcleiekeapkdaa

