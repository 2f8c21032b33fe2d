/-
  Journals, parsed: texts.
-/
import Derived.Test.YtdalneokgejmjaaDoorJr12
import Derived.Test.YtdalneokgejmjaaDoorJr13
import Derived.Test.YtdalneokgejmjaaDoorJr14
namespace Go.Proofs.YtdalneokgejmjaaDoor
open Go.Sx
set_option maxRecDepth 20000
set_option maxHeartbeats 4000000
set_option linter.unusedVariables false
theorem read36_c (F : Heap) (hF : TabF F) (hE : ErrF F) (hS : SpaceF F) (hW : WhiteF F) (s : List UInt8) (hs : s.length ≤ 5000) :
    NCall Tryd.prog 14 [.str s] [hpB F] fun r m => r = .tup [.agg (Jr.pr s).av, .bool (Jr.rd s).isSome] ∧ m = [hpB F] := by
  refine NCall.fits (K := fun r m => r = .tup [.agg (Jr.pr s).av, .bool (Jr.rd s).isSome] ∧ MemFits m [hpB F]) ?_ fun r m' h => ⟨r, _, rfl, h.2, h.1, rfl⟩
  have hD : (Jr.rd s).isSome = decide (Jr.okR (Jr.pr s) ∧ Jr.line (Jr.pr s) = s) := by
    unfold Jr.rd
    split
    · rename_i h; rw [decide_eq_true h]; rfl
    · rename_i h; rw [decide_eq_false h]; rfl
  rw [hD]
  by_cases h4 : (Lib.fieldsD s).length = 4
  · obtain ⟨w, x, y, z, hL⟩ : ∃ w x y z, Lib.fieldsD s = [w, x, y, z] := by
      match h : Lib.fieldsD s with
      | [w, x, y, z] => exact ⟨w, x, y, z, rfl⟩
      | [] => rw [h] at h4; simp at h4
      | [_] => rw [h] at h4; simp at h4
      | [_, _] => rw [h] at h4; simp at h4
      | [_, _, _] => rw [h] at h4; simp at h4
      | _ :: _ :: _ :: _ :: _ :: _ => rw [h] at h4; simp at h4
    have hp : Jr.pr s = if Jr.kindTo w 7 = 0 then ⟨0, 0, 0, 0⟩ else ⟨Jr.kindTo w 7, Num.atv x, Num.atv y, Num.atv z⟩ := by
      unfold Jr.pr
      rw [hL]
      rfl
    have hk7 := Jr.kindTo_le w 7
    have hc := read36_four F hF hE hS hW s hs w x y z hL (decide (Jr.okR (Jr.pr s) ∧ Jr.line (Jr.pr s) = s)) (Jr.line ⟨Jr.kindTo w 7, Num.atv x, Num.atv y, Num.atv z⟩)
      (fun h => decide_eq_false fun h' => by
        rw [hp, if_pos h] at h'
        exact absurd h'.1.1.1 (by decide))
      (fun _ => rfl)
      (fun h h1 h2 h3 h4 => decide_eq_true (by
        rw [hp, if_neg (by omega)]
        exact ⟨⟨⟨by dsimp only; omega, by dsimp only; omega⟩, h2, h3, h4⟩, h1⟩))
      (fun h => decide_eq_false fun h' => by
        rw [hp] at h'
        by_cases h0 : Jr.kindTo w 7 = 0
        · rw [if_pos h0] at h'
          exact absurd h'.1.1.1 (by decide)
        · rw [if_neg h0] at h'
          exact h ⟨h'.2, h'.1.2.1, h'.1.2.2.1, h'.1.2.2.2⟩)
    have e : (Jr.pr s).av = if Jr.kindTo w 7 = 0 then [.int .i64 0, .int .i64 0, .int .i64 0, .int .i64 0] else [.int .i64 (Jr.kindTo w 7 : Nat), .int .i64 (Num.atv x), .int .i64 (Num.atv y), .int .i64 (Num.atv z)] := by
      rw [hp]
      split <;> rfl
    rw [e]
    exact hc
  · have hp : Jr.pr s = ⟨0, 0, 0, 0⟩ := by
      unfold Jr.pr
      split
      · rename_i h; rw [h] at h4; exact (h4 rfl).elim
      · rfl
    rw [show decide (Jr.okR (Jr.pr s) ∧ Jr.line (Jr.pr s) = s) = false from decide_eq_false fun h => by
      rw [hp] at h
      exact absurd h.1.1.1 (by decide)]
    rw [hp]
    exact read36_few F hS hW s hs h4
theorem refread36_d (s : List UInt8) (hs : s.length ≤ 5000) : NCall Tryd.prog 15 [.str s] [] fun r _ => r = .tup [.agg (Jr.qr s).av, .bool (Jr.rd s).isSome] := by
  have hD : (Jr.rd s).isSome = decide (Jr.okR (Jr.qr s) ∧ Jr.line (Jr.qr s) = s) := by
    rw [Jr.rd_eq]
    unfold Jr.qd
    split
    · rename_i h; rw [decide_eq_true h]; rfl
    · rename_i h; rw [decide_eq_false h]; rfl
  rw [hD]
  exact refread36_c s hs
end Go.Proofs.YtdalneokgejmjaaDoor
