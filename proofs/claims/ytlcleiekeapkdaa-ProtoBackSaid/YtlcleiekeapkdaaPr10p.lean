/-
  Messages, read: a text that was cut is not read. Plain.
-/
import Derived.Test.YtlcleiekeapkdaaPr9p
namespace Go.Proofs.Ytlcleiekeapkdaa
open Go.Sx
set_option maxRecDepth 20000
set_option linter.unusedVariables false
namespace Pr
open Oct (R)
/-- The same reader, with more behind. -/
def lift (t : List UInt8) (r : R) : R := ⟨r.s ++ t, r.i, r.bad⟩
def Ext {β : Type} (f : R → β × R) : Prop := ∀ t r, (f r).2.bad = 0 → r.bad = 0 ∧ f (lift t r) = ((f r).1, lift t (f r).2)
def ExtR (f : R → R) : Prop := ∀ t r, (f r).bad = 0 → r.bad = 0 ∧ f (lift t r) = lift t (f r)
theorem wrong_no {r : R} {e : Int} (he : e ≠ 0) (h : (r.wrong e).bad = 0) : False := by
  unfold Oct.R.wrong at h
  split at h
  · exact he h
  · rename_i h1; exact h1 h
theorem ext_take (n : Int) : Ext fun r => r.take n := by
  intro t r h
  dsimp only at h ⊢
  unfold Oct.R.take at h
  split at h
  · rename_i h1; exact absurd h h1
  · rename_i h1
    split at h
    · dsimp only at h; exact absurd h (by decide)
    · split at h
      · dsimp only at h; exact absurd h (by decide)
      · rename_i h2 h3
        have h0 : r.bad = 0 := by simpa using h1
        refine ⟨h0, ?_⟩
        have e1 : r.take n = ((r.s.drop r.i).take n.toNat, { r with i := r.i + n.toNat }) := by
          unfold Oct.R.take; rw [if_neg h1, if_neg h2, if_neg h3]
        have e2 : (lift t r).take n = (((r.s ++ t).drop r.i).take n.toNat, ⟨r.s ++ t, r.i + n.toNat, r.bad⟩) := by
          unfold Oct.R.take lift
          rw [if_neg (by simpa using h0), if_neg h2, if_neg (by simp only [List.length_append]; omega)]
        rw [e1, e2]
        refine Prod.ext ?_ rfl
        dsimp only
        rw [List.drop_append_of_le_length (by omega), List.take_append_of_le_length (by rw [List.length_drop]; omega)]
theorem ext_num (w : Int) : Ext fun r => r.num w := by
  intro t r h
  dsimp only at h ⊢
  unfold Oct.R.num at h ⊢
  by_cases hw : w < 1 ∨ 7 < w
  · rw [if_pos hw] at h
    exact (wrong_no (by decide) h).elim
  · rw [if_neg hw] at h
    obtain ⟨h1, h2⟩ := ext_take w t r h
    dsimp only at h2
    rw [if_neg hw, if_neg hw]
    exact ⟨h1, by rw [h2]⟩
theorem ext_int : Ext fun r => r.int := by
  intro t r h
  dsimp only at h ⊢
  unfold Oct.R.int at h ⊢
  obtain ⟨h1, h2⟩ := ext_take 8 t r h
  dsimp only at h2
  exact ⟨h1, by rw [h2]⟩
theorem ext_flag : Ext fun r => r.flag := by
  intro t r h
  dsimp only at h ⊢
  unfold Oct.R.flag at h ⊢
  dsimp only at h
  by_cases h1 : 1 < (r.num 1).1
  · rw [if_pos h1] at h
    exact (wrong_no (by decide) h).elim
  · rw [if_neg h1] at h
    obtain ⟨h2, h3⟩ := ext_num 1 t r h
    dsimp only at h3
    rw [h3]
    exact ⟨h2, by rw [if_neg h1, if_neg h1]⟩
theorem ext_count (most : Int) : Ext fun r => r.count most := by
  intro t r h
  dsimp only at h ⊢
  unfold Oct.R.count at h ⊢
  by_cases h1 : most < (r.num 1).1
  · rw [if_pos h1] at h
    exact (wrong_no (by decide) h).elim
  · rw [if_neg h1] at h
    obtain ⟨h2, h3⟩ := ext_num 1 t r h
    dsimp only at h3
    rw [h3]
    exact ⟨h2, by rw [if_neg h1, if_neg h1]⟩
theorem ext_rsq : ∀ k, ExtR fun r => Oct.rsq r k
  | 0 => fun t r h => ⟨h, rfl⟩
  | k + 1 => fun t r h => by
    obtain ⟨h1, h2⟩ := ext_num 1 t (Oct.rsq r k) h
    obtain ⟨h3, h4⟩ := ext_rsq k t r h1
    refine ⟨h3, ?_⟩
    show ((Oct.rsq (lift t r) k).num 1).2 = _
    dsimp only at h4 h2
    rw [h4, h2]
    rfl
theorem rsq_sticky {r : R} : ∀ {j k : Nat}, j ≤ k → (Oct.rsq r k).bad = 0 → (Oct.rsq r j).bad = 0 := fun {j k} h hb => by
  induction h with
  | refl => exact hb
  | step _ ih => exact ih (ext_num 1 [] _ hb).1
theorem ext_nsq {t : List UInt8} {r : R} {j k : Nat} (h : j < k) (hb : (Oct.rsq r k).bad = 0) : Oct.nsq (lift t r) j = Oct.nsq r j := by
  have h1 := rsq_sticky (j := j + 1) (by omega) hb
  obtain ⟨h2, h3⟩ := ext_num 1 t (Oct.rsq r j) h1
  obtain ⟨_, h4⟩ := ext_rsq j t r h2
  unfold Oct.nsq
  dsimp only at h4 h3
  rw [h4, h3]
theorem ext_rdR : ExtR Mt.rdR := by
  intro t r h
  unfold Mt.rdR at h ⊢
  by_cases h1 : (Mt.rdM r).ok
  · rw [if_pos h1] at h
    obtain ⟨h2, h3⟩ := ext_rsq 9 t r h
    have e : Mt.rdM (lift t r) = Mt.rdM r := by
      unfold Mt.rdM
      rw [ext_nsq (k := 9) (by decide) h, ext_nsq (k := 9) (by decide) h, ext_nsq (k := 9) (by decide) h, ext_nsq (k := 9) (by decide) h, ext_nsq (k := 9) (by decide) h, ext_nsq (k := 9) (by decide) h, ext_nsq (k := 9) (by decide) h, ext_nsq (k := 9) (by decide) h, ext_nsq (k := 9) (by decide) h]
    rw [e, if_pos h1, if_pos h1]
    exact ⟨h2, h3⟩
  · rw [if_neg h1] at h
    exact (wrong_no (by decide) h).elim
theorem ext_step (ports : Int) : ExtR (Ac.stepR ports) := by
  intro t r h
  unfold Ac.stepR at h ⊢
  by_cases h1 : Ac.ok1 ports (Ac.actOf r)
  · rw [if_pos h1] at h
    obtain ⟨h2, h3⟩ := ext_rsq 3 t r h
    have e : Ac.actOf (lift t r) = Ac.actOf r := by
      unfold Ac.actOf
      rw [ext_nsq (k := 3) (by decide) h, ext_nsq (k := 3) (by decide) h, ext_nsq (k := 3) (by decide) h]
    rw [e, if_pos h1, if_pos h1]
    exact ⟨h2, h3⟩
  · rw [if_neg h1] at h
    exact (wrong_no (by decide) h).elim
theorem ext_stR (ports : Int) : ∀ k, ExtR fun r => Ac.stR ports r k
  | 0 => fun t r h => ⟨h, rfl⟩
  | k + 1 => fun t r h => by
    obtain ⟨h1, h2⟩ := ext_step ports t (Ac.stR ports r k) h
    obtain ⟨h3, h4⟩ := ext_stR ports k t r h1
    refine ⟨h3, ?_⟩
    show Ac.stepR ports (Ac.stR ports (lift t r) k) = _
    dsimp only at h4
    rw [h4, h2]
    rfl
theorem ext_rdEnd (ports : Int) : ExtR (Ac.rdEnd ports) := by
  intro t r h
  unfold Ac.rdEnd at h ⊢
  obtain ⟨h1, h2⟩ := ext_stR ports _ t _ h
  obtain ⟨h3, h4⟩ := ext_count 16 t r h1
  dsimp only at h4 h2
  refine ⟨h3, ?_⟩
  have e : Ac.cnt (lift t r) = Ac.cnt r := by unfold Ac.cnt; rw [h4]
  rw [e, h4, h2]
theorem ext_rdE (ports : Int) : ExtR (Ru.rdE ports) := by
  intro t r h
  unfold Ru.rdE at h ⊢
  obtain ⟨h1, h2⟩ := ext_rdEnd ports t _ h
  obtain ⟨h3, h4⟩ := ext_rdR t _ h1
  obtain ⟨h5, h6⟩ := ext_num 2 t r h3
  dsimp only at h6
  exact ⟨h5, by rw [h6, h4, h2]⟩
theorem ext_mdE : ExtR mdE := by
  intro t r h
  unfold mdE at h ⊢
  obtain ⟨h1, h2⟩ := ext_rdE 8 t _ h
  obtain ⟨h3, h4⟩ := ext_flag t _ h1
  obtain ⟨h5, h6⟩ := ext_num 1 t r h3
  dsimp only at h6 h4
  exact ⟨h5, by rw [h6, h4, h2]⟩
theorem ext_mdsE : ∀ k, ExtR fun r => mdsE r k
  | 0 => fun t r h => ⟨h, rfl⟩
  | k + 1 => fun t r h => by
    obtain ⟨h1, h2⟩ := ext_mdE t (mdsE r k) h
    obtain ⟨h3, h4⟩ := ext_mdsE k t r h1
    refine ⟨h3, ?_⟩
    show mdE (mdsE (lift t r) k) = _
    dsimp only at h4
    rw [h4, h2]
    rfl
theorem ext_if {β : Type} {c : Prop} [Decidable c] {g : R → R} {f : R → β × R} (hg : ExtR g) (hf : Ext f) : ExtR fun r => if c then (f (g r)).2 else g r := by
  intro t r h
  by_cases hc : c
  · simp only [if_pos hc] at h ⊢
    obtain ⟨h1, h2⟩ := hf t _ h
    obtain ⟨h3, h4⟩ := hg t r h1
    exact ⟨h3, by rw [h4, h2]⟩
  · simp only [if_neg hc] at h ⊢
    exact hg t r h
theorem ext_e1 (k : Int) : ExtR (e1 k) := ext_if (g := fun r => r) (fun t r h => ⟨h, rfl⟩) ext_int
theorem ext_e2 (k : Int) : ExtR (e2 k) := ext_if (ext_e1 k) ext_int
theorem ext_e3 (k : Int) : ExtR (e3 k) := ext_if (ext_e2 k) (ext_num 2)
theorem ext_e4 (k : Int) : ExtR (e4 k) := ext_if (ext_e3 k) (ext_num 2)
theorem ext_e5 (k : Int) : ExtR (e5 k) := ext_if (ext_e4 k) (ext_num 1)
theorem ext_e6 (k : Int) : ExtR (e6 k) := ext_if (ext_e5 k) (ext_num 1)
theorem ext_e7 (k : Int) : ExtR (e7 k) := ext_if (ext_e6 k) (ext_num 1)
theorem ext_e8 (k : Int) : ExtR (e8 k) := by
  intro t r h
  unfold e8 at h ⊢
  by_cases hc : k = 3
  · simp only [if_pos hc] at h ⊢
    obtain ⟨h1, h2⟩ := ext_mdsE _ t _ h
    obtain ⟨h3, h4⟩ := ext_count 16 t _ h1
    obtain ⟨h5, h6⟩ := ext_e7 k t r h3
    dsimp only at h4 h2
    refine ⟨h5, ?_⟩
    have e : Ac.cnt (lift t (e7 k r)) = Ac.cnt (e7 k r) := by unfold Ac.cnt; rw [h4]
    rw [h6, e, h4, h2]
  · simp only [if_neg hc] at h ⊢
    exact ext_e7 k t r h
end Pr
end Go.Proofs.Ytlcleiekeapkdaa

