/-
  The four laws of frames: what is plain in them.
-/
import Derived.Test.YthiaoeloomljbaaFrm3
namespace Go.Proofs.Ythiaoeloomljbaa
open Go.Sx
set_option maxRecDepth 20000
namespace Frm
theorem pack_get (b : List UInt8) (h : b.length ≤ 2000) : ∃ x y r, pack b = 1 :: x :: y :: r ∧ x.toNat * 256 + y.toNat = b.length ∧ r.length = b.length + 3 := by
  have h1 := pack_len b h
  have hp : pack b = CrcPure.shut (hd b) := if_neg (by omega)
  rw [hp] at h1 ⊢
  unfold CrcPure.shut hd at *
  rw [num2 b.length (by omega)] at h1 ⊢
  refine ⟨_, _, _, rfl, ?_, ?_⟩
  · have e1 : (UInt8.ofNat (b.length / 256)).toNat = b.length / 256 := by simp; omega
    have e2 : (UInt8.ofNat b.length).toNat = b.length % 256 := by simp
    rw [e1, e2]; omega
  · simpa using h1
theorem size_of {x y : UInt8} {r : List UInt8} : size (1 :: x :: y :: r) = if 2000 < x.toNat * 256 + y.toNat then (0, 6) else (((x.toNat * 256 + y.toNat : Nat) : Int) + 6, 0) := by
  unfold size
  rw [if_neg (by simp), if_neg (by simp)]
  rfl
theorem size_pack (b t : List UInt8) (h : b.length ≤ 2000) : size (pack b ++ t) = ((b.length : Int) + 6, 0) ∧ two (pack b ++ t) = b.length := by
  obtain ⟨x, y, r, e, h1, _⟩ := pack_get b h
  rw [e]
  refine ⟨?_, h1⟩
  show size (1 :: x :: y :: (r ++ t)) = _
  rw [size_of, if_neg (by omega), h1]
theorem next_pack (b t : List UInt8) (h : b.length ≤ 2000) : next (pack b ++ t) = (b, t, 0) := by
  obtain ⟨h1, h2⟩ := size_pack b t h
  have hl := pack_len b h
  have ht : (pack b ++ t).take (b.length + 6) = pack b := by rw [← hl]; simp
  have hp : pack b = CrcPure.shut (hd b) := if_neg (by omega)
  have ho : CrcPure.open_ (pack b) = (hd b, true) := by rw [hp]; exact CrcPure.open_shut _
  have hd3 : (hd b).drop 3 = b := by
    unfold hd
    rw [num2 b.length (by omega)]
    rfl
  have hc : ¬ ((size (pack b ++ t)).2 = 3 ∨ pack b ++ t = [] ∨ ((size (pack b ++ t)).2 = 0 ∧ ((pack b ++ t).length : Int) < (size (pack b ++ t)).1)) := by
    rw [h1]
    rintro (h | h | h)
    · simp at h
    · have := congrArg List.length h
      rw [List.length_append, hl] at this
      simp at this
    · have := h.2
      rw [List.length_append, hl] at this
      omega
  rw [next0 hc (by rw [h1]) (by rw [h2, ht, ho]), h2, ht, ho, ← hl]
  simp [hd3]
theorem next_part (b : List UInt8) (n : Nat) (h : b.length ≤ 2000) (hn : n < (pack b).length) : (next ((pack b).take n)).2.2 = 3 := by
  rcases Nat.eq_zero_or_pos n with h0 | h0
  · subst h0; rfl
  obtain ⟨x, y, r, e, h1, h2⟩ := pack_get b h
  have hl := pack_len b h
  by_cases h3 : n < 3
  · have hs : size ((pack b).take n) = (0, 3) := by
      rw [e]
      unfold size
      have : n = 1 ∨ n = 2 := by omega
      rcases this with rfl | rfl <;> simp
    rw [next3 (.inl (by rw [hs]))]
  · have hs : size ((pack b).take n) = ((b.length : Int) + 6, 0) := by
      rw [e]
      match n, h3 with
      | n + 3, _ =>
        show size (1 :: x :: y :: r.take n) = _
        rw [size_of, if_neg (by omega), h1]
    rw [next3 (.inr (.inr ⟨by rw [hs], by rw [hs]; simp only [List.length_take]; omega⟩))]
/-- FrameBack. -/
theorem split_packs (l : List (List UInt8)) (p : List UInt8) (hl : ∀ b ∈ l, b.length ≤ 2000) (hp : (next p).2.2 = 3) : split (l.flatMap pack ++ p) = (l, p, 0) := by
  induction l with
  | nil =>
    rw [List.flatMap_nil, List.nil_append, split_eq, if_neg (by rw [hp]; decide), if_pos hp]
  | cons b l ih =>
    rw [List.flatMap_cons, List.append_assoc, split_eq, next_pack b _ (hl b (by simp))]
    rw [if_pos rfl, ih (fun x hx => hl x (by simp [hx]))]
theorem getD_append (p t : List UInt8) (i : Nat) (h : i < p.length) : (p ++ t).getD i 0 = p.getD i 0 := by
  simp [List.getElem?_append_left h]
theorem two_append (p t : List UInt8) (h : 3 ≤ p.length) : two (p ++ t) = two p := by
  unfold two
  rw [getD_append p t 1 (by omega), getD_append p t 2 (by omega)]
theorem size_append (p t : List UInt8) (h : p ≠ []) (h3 : (size p).2 ≠ 3) : size (p ++ t) = size p := by
  have hp := List.length_pos_iff.2 h
  have e0 := getD_append p t 0 hp
  have hne : p ++ t ≠ [] := fun e => h (List.append_eq_nil_iff.1 e).1
  unfold size at h3 ⊢
  rw [e0]
  by_cases h1 : (p.getD 0 0).toNat ≠ 1
  · rw [if_pos (.inr h1), if_pos (.inr h1)]
  · have c1 : ¬ (p = [] ∨ (p.getD 0 0).toNat ≠ 1) := fun e => e.elim h h1
    have c2 : ¬ (p ++ t = [] ∨ (p.getD 0 0).toNat ≠ 1) := fun e => e.elim hne h1
    rw [if_neg c1] at h3 ⊢
    rw [if_neg c2]
    by_cases h2 : p.length < 3
    · rw [if_pos h2] at h3; exact absurd rfl h3
    · rw [if_neg h2, if_neg (show ¬ (p ++ t).length < 3 by rw [List.length_append]; omega), two_append p t (by omega)]
/-- What stands behind the first frame does not matter for it. -/
theorem next_append (p t : List UInt8) (h : (next p).2.2 ≠ 3) : next (p ++ t) = if (next p).2.2 = 0 then ((next p).1, (next p).2.1 ++ t, 0) else ([], [], (next p).2.2) := by
  by_cases hc : (size p).2 = 3 ∨ p = [] ∨ ((size p).2 = 0 ∧ (p.length : Int) < (size p).1)
  · rw [next3 hc] at h; exact absurd rfl h
  have hne : p ≠ [] := fun e => hc (.inr (.inl e))
  have hs := size_append p t hne (fun e => hc (.inl e))
  have hc2 : ¬ ((size (p ++ t)).2 = 3 ∨ p ++ t = [] ∨ ((size (p ++ t)).2 = 0 ∧ ((p ++ t).length : Int) < (size (p ++ t)).1)) := by
    rw [hs]
    rintro (h | h | h)
    · exact hc (.inl h)
    · simp at h; exact hne h.1
    · refine hc (.inr (.inr ⟨h.1, ?_⟩))
      have := h.2
      simp only [List.length_append] at this
      omega
  by_cases h2 : (size p).2 = 0
  · obtain ⟨_, e1, e2, e3, e4⟩ := size_0 p h2
    have hlen : two p + 6 ≤ p.length := by
      have : ¬ ((p.length : Int) < (size p).1) := fun e => hc (.inr (.inr ⟨h2, e⟩))
      rw [e4] at this
      omega
    have ht : (p ++ t).take (two p + 6) = p.take (two p + 6) := List.take_append_of_le_length hlen
    have hdr : (p ++ t).drop (two p + 6) = p.drop (two p + 6) ++ t := List.drop_append_of_le_length hlen
    have htw := two_append p t (by omega)
    by_cases h3 : (CrcPure.open_ (p.take (two p + 6))).2 = true
    · rw [next0 hc h2 h3, next0 hc2 (by rw [hs]; exact h2) (by rw [htw, ht]; exact h3), htw, ht, hdr]
      simp
    · rw [next4 hc h2 h3, next4 hc2 (by rw [hs]; exact h2) (by rw [htw, ht]; exact h3)]
      simp
  · rw [nextE hc h2, nextE hc2 (by rw [hs]; exact h2), hs]
    simp [h2]
/-- FrameCuts. -/
theorem split_cut (n : Nat) : ∀ (p t : List UInt8), p.length < n → split (p ++ t) = if (split p).2.2 = 0 then ((split p).1 ++ (split ((split p).2.1 ++ t)).1, (split ((split p).2.1 ++ t)).2) else split p := by
  induction n with
  | zero => intro p t h; omega
  | succ n ih =>
    intro p t h
    by_cases h3 : (next p).2.2 = 3
    · have e : split p = ([], p, 0) := by rw [split_eq, h3, if_neg (by decide), if_pos rfl]
      rw [e]
      simp
    · have ha := next_append p t h3
      by_cases h0 : (next p).2.2 = 0
      · rw [if_pos h0] at ha
        have hl := next_less p h0
        rw [split_eq (p ++ t), ha, if_pos rfl, split_eq p, if_pos h0]
        rw [ih _ t (by omega)]
        split
        · simp
        · rfl
      · rw [if_neg h0] at ha
        have e : split p = ([], [], (next p).2.2) := by rw [split_eq, if_neg h0, if_neg h3]
        rw [split_eq (p ++ t), ha, e]
        simp [h0, h3]
theorem split_left (n : Nat) : ∀ (s : List UInt8), s.length < n → (split s).2.2 ≠ 0 → (split s).2.1 = [] := by
  induction n with
  | zero => intro s h; omega
  | succ n ih =>
    intro s h he
    rw [split_eq] at he ⊢
    by_cases h0 : (next s).2.2 = 0
    · have hl := next_less s h0
      rw [if_pos h0] at he ⊢
      exact ih _ (by omega) he
    · rw [if_neg h0] at he ⊢
      by_cases h3 : (next s).2.2 = 3
      · rw [if_pos h3] at he
        exact absurd rfl he
      · rw [if_neg h3]
/-- A changed byte is found. -/
theorem run_one (x : UInt8) : CrcPure.run 0 [0, 0, x] = CrcPure.run 0 [x] := by
  have h := CrcPure.run_append 0 (List.replicate 2 0) [x]
  rw [CrcPure.run_zero_zeros] at h
  exact h
theorem found1 (s : List UInt8) (at_ : Nat) (x : UInt8) (h : at_ + 1 ≤ s.length) (hs : CrcPure.sum s = 0) (hx : x ≠ 0) : CrcPure.sum (CrcPure.changed s at_ [x]) ≠ 0 := by
  rw [CrcPure.changed_mask s at_ [x] h]
  have h1 := CrcPure.run_xor (c := 11994318) (d := 0) (by decide) (by decide) s (CrcPure.mask s.length at_ [x]) (by simp [CrcPure.mask]; omega)
  rw [Nat.xor_zero] at h1
  unfold CrcPure.sum at hs ⊢
  rw [h1, hs, Nat.zero_xor]
  unfold CrcPure.mask
  rw [CrcPure.run_append, CrcPure.run_append, CrcPure.run_zero_zeros, ← run_one]
  intro h0
  exact CrcPure.run_three_ne (fun h => hx h.2.2) (CrcPure.run_zeros _ (CrcPure.run_lt (by decide) _) h0)
theorem changed_get (s : List UInt8) (at_ : Nat) (x : List UInt8) (i : Nat) (h : i < at_) : (CrcPure.changed s at_ x).getD i 0 = s.getD i 0 := by
  unfold CrcPure.changed
  rcases Nat.lt_or_ge i s.length with hi | hi
  · simp [hi, CrcPure.chg1, show ¬ (at_ ≤ i ∧ i - at_ < x.length) by omega]
  · simp [hi]
theorem next_changed (b : List UInt8) (at_ : Nat) (x : UInt8) (t : List UInt8) (h : b.length ≤ 2000) (h3 : 3 ≤ at_) (hat : at_ < (pack b).length) (hx : x ≠ 0) : next (CrcPure.changed (pack b) at_ [x] ++ t) = ([], [], 4) := by
  have hl := pack_len b h
  have hcl := CrcPure.changed_len (pack b) at_ [x]
  obtain ⟨y, z, r, e, h1, h2⟩ := pack_get b h
  have g : ∀ i, i < 3 → (CrcPure.changed (pack b) at_ [x]).getD i 0 = (pack b).getD i 0 := fun i hi => changed_get _ _ _ _ (by omega)
  generalize hq : CrcPure.changed (pack b) at_ [x] = q at *
  have g' : ∀ i, i < 3 → (q ++ t).getD i 0 = (pack b).getD i 0 := fun i hi => by rw [getD_append q t i (by omega)]; exact g i hi
  have htw : two (q ++ t) = b.length := by
    unfold two
    rw [g' 1 (by omega), g' 2 (by omega), e]
    exact h1
  have hs : size (q ++ t) = ((b.length : Int) + 6, 0) := by
    unfold size
    rw [g' 0 (by omega), e, if_neg (by
      rintro (h | h)
      · have := congrArg List.length h
        simp only [List.length_append, List.length_nil] at this
        omega
      · exact h rfl), if_neg (by simp only [List.length_append]; omega), htw, if_neg (by omega)]
  have hz : CrcPure.sum (pack b) = 0 := by
    have hp : pack b = CrcPure.shut (hd b) := if_neg (by omega)
    rw [hp]; exact CrcPure.sum_shut _
  have ht : (q ++ t).take (b.length + 6) = q := by rw [← hl, ← hcl]; simp
  have hn : CrcPure.sum q ≠ 0 := by rw [← hq]; exact found1 _ _ _ (by omega) hz hx
  have ho : CrcPure.open_ q = ([], false) := if_pos (.inr hn)
  exact next4 (by
    rw [hs]
    rintro (h | h | h)
    · simp at h
    · have := congrArg List.length h
      simp only [List.length_append, List.length_nil] at this
      omega
    · have := h.2
      simp only [List.length_append] at this
      omega) (by rw [hs]) (by rw [htw, ht, ho]; simp)
end Frm
end Go.Proofs.Ythiaoeloomljbaa
