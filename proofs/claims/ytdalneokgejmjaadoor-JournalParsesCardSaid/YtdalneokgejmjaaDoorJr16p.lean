/-
  Journals: lines cut off a text. Plain laws.
-/
import Derived.Test.YtdalneokgejmjaaDoorJr10p
import Derived.Lib.Bytealg
namespace Go.Proofs.YtdalneokgejmjaaDoor
open Go.Sx
set_option linter.unusedVariables false
namespace Jr
theorem index_cut : ∀ s : List UInt8, Lib.indexByte s 10 + 1 = (cut s : Int)
  | [] => by simp [Lib.indexByte, cut]
  | b :: s => by
    have ih := index_cut s
    have hge := Lib.indexByte_ge s 10
    rw [cut_nl] at ih ⊢
    unfold Lib.indexByte
    by_cases hb : b = 10
    · subst hb
      simp [atNl]
    · have e : atNl (b :: s) = atNl s + 1 := by
        unfold atNl
        rw [List.takeWhile_cons_of_pos (by simpa using hb)]
        rfl
      rw [e]
      have hb' : (b == 10) = false := by simpa using hb
      rw [hb']
      simp only [Bool.false_eq_true, if_false, List.length_cons, Nat.add_lt_add_iff_right]
      by_cases h1 : atNl s < s.length
      · rw [if_pos h1] at ih ⊢
        rw [if_neg (by simp only [beq_iff_eq]; omega)]
        omega
      · rw [if_neg h1] at ih ⊢
        rw [if_pos (by simp only [beq_iff_eq]; omega)]
        omega
theorem rd_okR {s : List UInt8} {r : Rec} (h : rd s = some r) : r.ok := (rd_is h).1.ok
theorem rd_pr {s : List UInt8} {r : Rec} (h : rd s = some r) : pr s = r := by
  unfold rd at h
  split at h
  · injection h
  · cases h
theorem rd_qr {s : List UInt8} {r : Rec} (h : rd s = some r) : qr s = r := by
  rw [rd_eq] at h
  unfold qd at h
  split at h
  · injection h
  · cases h
theorem rd_len {s : List UInt8} {r : Rec} (h : rd s = some r) : 1 ≤ s.length := by
  rcases s with _ | ⟨b, s⟩
  · rw [rd_nil] at h; cases h
  · simp
/-- More fuel changes nothing. -/
theorem parse_fuel : ∀ (f g : Nat) (out : List Rec) (s : List UInt8), s.length ≤ f → s.length ≤ g → parse f out s = parse g out s
  | 0, 0, out, s, _, _ => rfl
  | 0, g + 1, out, s, h, _ => by
    have : s = [] := List.length_eq_zero_iff.1 (by omega)
    subst this
    simp [parse]
  | f + 1, 0, out, s, _, h => by
    have : s = [] := List.length_eq_zero_iff.1 (by omega)
    subst this
    simp [parse]
  | f + 1, g + 1, out, s, h1, h2 => by
    unfold parse
    split
    · rfl
    · cases hr : rd (s.take (cut s)) with
      | none => rfl
      | some r =>
        have hc := rd_len hr
        have hcl := cut_le s
        rw [List.length_take] at hc
        dsimp only
        exact parse_fuel f g _ _ (by rw [List.length_drop]; omega) (by rw [List.length_drop]; omega)
theorem parse_step {s : List UInt8} {f : Nat} {out : List Rec} (hs : s ≠ []) (hf : s.length ≤ f) : parse f out s = match rd (s.take (cut s)) with
    | some r => parse f (out ++ [r]) (s.drop (cut s))
    | none => (out, false) := by
  cases f with
  | zero => exact (hs (List.length_eq_zero_iff.1 (by omega))).elim
  | succ f =>
    conv => lhs; unfold parse
    rw [if_neg hs]
    cases hr : rd (s.take (cut s)) with
    | none => rfl
    | some r =>
      have hc := rd_len hr
      have hcl := cut_le s
      rw [List.length_take] at hc
      dsimp only
      exact parse_fuel f (f + 1) _ _ (by rw [List.length_drop]; omega) (by rw [List.length_drop]; omega)
theorem parse_nil (f : Nat) (out : List Rec) : parse f out [] = (out, true) := by cases f <;> simp [parse]
end Jr
end Go.Proofs.YtdalneokgejmjaaDoor
