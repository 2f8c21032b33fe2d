/-
  Journals: what may be told is parsed as it was. Plain laws.
-/
import Derived.Test.YtdalneokgejmjaaDoorJr4p
import Derived.Test.YtdalneokgejmjaaDoorNumP
import Derived.Shelf.Strings.FieldsAny
namespace Go.Proofs.YtdalneokgejmjaaDoor
open Go.Sx
set_option linter.unusedVariables false
namespace Jr
def okN (n : Int) : Prop := 0 ≤ n ∧ n ≤ 1125899906842624
instance (n : Int) : Decidable (okN n) := inferInstanceAs (Decidable (_ ∧ _))
/-- What may be told. -/
def okR (r : Rec) : Prop := (1 ≤ r.k ∧ r.k ≤ 7) ∧ okN r.u ∧ okN r.a ∧ okN r.b
instance (r : Rec) : Decidable (okR r) := inferInstanceAs (Decidable (_ ∧ _))
theorem okR.ok {r : Rec} (h : okR r) : r.ok := by
  obtain ⟨⟨h1, h2⟩, ⟨h3, h4⟩, ⟨h5, h6⟩, h7, h8⟩ := h
  exact ⟨⟨by omega, by omega⟩, ⟨by omega, by omega⟩, ⟨by omega, by omega⟩, by omega, by omega⟩
/-- The kind whose word a text is, of the first n; 0: none. -/
def kindTo (w : List UInt8) : Nat → Nat
  | 0 => 0
  | n + 1 => if word (n + 1 : Nat) = w then n + 1 else kindTo w n
def kindOf (w : List UInt8) : Nat := kindTo w 7
theorem kind_word : ∀ k : Nat, 1 ≤ k → k ≤ 7 → kindOf (word (k : Int)) = k := fun k h1 h2 => by
  have : ∀ k, k < 8 → 1 ≤ k → kindOf (word ((k : Nat) : Int)) = k := by decide +kernel
  exact this k (by omega) h1
theorem kindTo_le (w : List UInt8) : ∀ n, kindTo w n ≤ n
  | 0 => Nat.le_refl _
  | n + 1 => by
    have := kindTo_le w n
    unfold kindTo
    split <;> omega
theorem kind_mine {r : Rec} (h : okR r) : ((kindOf (word r.k) : Nat) : Int) = r.k := by
  obtain ⟨⟨h1, h2⟩, _⟩ := h
  obtain ⟨k, hk⟩ := Int.eq_ofNat_of_zero_le (show 0 ≤ r.k by omega)
  rw [hk] at h1 h2 ⊢
  rw [kind_word k (by omega) (by omega)]
/-- A word has small letters alone. -/
def letters (w : List UInt8) : Bool := w.all fun b => decide (97 ≤ b.toNat) && decide (b.toNat ≤ 122)
theorem word_letters (k : Nat) (h1 : 1 ≤ k) (h2 : k ≤ 7) : letters (word (k : Int)) = true ∧ word (k : Int) ≠ [] := by
  have : ∀ k, k < 8 → 1 ≤ k → letters (word ((k : Nat) : Int)) = true ∧ word ((k : Nat) : Int) ≠ [] := by decide +kernel
  exact this k (by omega) h1
theorem letters_solid {w : List UInt8} (h : letters w = true) : Num.solid w := fun b hb => by
  have := List.all_eq_true.1 h b hb
  simp only [Bool.and_eq_true, decide_eq_true_eq] at this
  refine ⟨by omega, ?_⟩
  cases hs : Lib.isSp b with
  | false => rfl
  | true =>
    exfalso
    unfold Lib.isSp at hs
    simp only [Bool.or_eq_true, beq_iff_eq] at hs
    rcases hs with ((((rfl | rfl) | rfl) | rfl) | rfl) | rfl <;> exact absurd this (by decide)
theorem line_parts (r : Rec) : line r = word r.k ++ 32 :: (Lib.itoa r.u ++ 32 :: (Lib.itoa r.a ++ 32 :: (Lib.itoa r.b ++ 10 :: []))) := by
  unfold line; simp
theorem line_word {r : Rec} (h : okR r) : letters (word r.k) = true ∧ word r.k ≠ [] := by
  obtain ⟨⟨h1, h2⟩, _⟩ := h
  obtain ⟨k, hk⟩ := Int.eq_ofNat_of_zero_le (show 0 ≤ r.k by omega)
  rw [hk] at h1 h2 ⊢
  exact word_letters k (by omega) (by omega)
theorem line_fields {r : Rec} (h : okR r) : Lib.fields (line r) = [word r.k, Lib.itoa r.u, Lib.itoa r.a, Lib.itoa r.b] := by
  have hw := line_word h
  obtain ⟨_, ⟨hu, _⟩, ⟨ha, _⟩, hb, _⟩ := h
  obtain ⟨u1, u2, _⟩ := Num.itoa_digs hu
  obtain ⟨a1, a2, _⟩ := Num.itoa_digs ha
  obtain ⟨b1, b2, _⟩ := Num.itoa_digs hb
  rw [line_parts, Num.fields_one (letters_solid hw.1) hw.2 rfl, Num.fields_one (Num.digs_solid u1) u2 rfl, Num.fields_one (Num.digs_solid a1) a2 rfl, Num.fields_one (Num.digs_solid b1) b2 rfl]
  rfl
theorem line_ascii {r : Rec} (h : okR r) : ∀ b ∈ line r, b.toNat < 128 := by
  have hw := line_word h
  obtain ⟨_, ⟨hu, _⟩, ⟨ha, _⟩, hb, _⟩ := h
  obtain ⟨u1, _, _⟩ := Num.itoa_digs hu
  obtain ⟨a1, _, _⟩ := Num.itoa_digs ha
  obtain ⟨b1, _, _⟩ := Num.itoa_digs hb
  have sw := letters_solid hw.1
  have su := Num.digs_solid u1
  have sa := Num.digs_solid a1
  have sb := Num.digs_solid b1
  intro b hm
  rw [line_parts] at hm
  simp only [List.mem_append, List.mem_cons, List.not_mem_nil, or_false] at hm
  rcases hm with h | h | h | h | h | h | h | h
  · exact (sw b h).1
  · rw [h]; decide
  · exact (su b h).1
  · rw [h]; decide
  · exact (sa b h).1
  · rw [h]; decide
  · exact (sb b h).1
  · rw [h]; decide
/-! ### The program's -/
/-- What is read of a line, whatever it is. -/
def pr (s : List UInt8) : Rec :=
  match Lib.fieldsD s with
  | [w, x, y, z] => if kindOf w = 0 then ⟨0, 0, 0, 0⟩ else ⟨kindOf w, Num.atv x, Num.atv y, Num.atv z⟩
  | _ => ⟨0, 0, 0, 0⟩
def rd (s : List UInt8) : Option Rec := if okR (pr s) ∧ line (pr s) = s then some (pr s) else none
theorem pr_line {r : Rec} (h : okR r) : pr (line r) = r := by
  have hk := kind_mine h
  have hw : kindOf (word r.k) ≠ 0 := fun e => by
    rw [e] at hk
    have := h.1.1
    omega
  unfold pr
  rw [Lib.fieldsD_ascii _ (line_ascii h), line_fields h]
  dsimp only
  obtain ⟨_, ⟨hu, hu'⟩, ⟨ha, ha'⟩, hb, hb'⟩ := h
  rw [if_neg hw, hk, Num.atv_itoa hu (by omega), Num.atv_itoa ha (by omega), Num.atv_itoa hb (by omega)]
theorem rd_line {r : Rec} (h : okR r) : rd (line r) = some r := by
  unfold rd
  rw [pr_line h, if_pos ⟨h, rfl⟩]
theorem rd_is {s : List UInt8} {r : Rec} (h : rd s = some r) : okR r ∧ line r = s := by
  unfold rd at h
  split at h
  · rename_i h1
    injection h with h
    rw [← h]; exact h1
  · cases h
/-! ### The document's -/
def atSp (s : List UInt8) : Nat := (s.takeWhile fun b => b != 32).length
def n1 (s : List UInt8) : Nat × Nat := Num.go s 16 (atSp s + 1) 0
def n2 (s : List UInt8) : Nat × Nat := Num.go s 16 ((n1 s).2 + 1) 0
def n3 (s : List UInt8) : Nat × Nat := Num.go s 16 ((n2 s).2 + 1) 0
def qr (s : List UInt8) : Rec := ⟨kindOf (s.take (atSp s)), (n1 s).1, (n2 s).1, (n3 s).1⟩
def qd (s : List UInt8) : Option Rec := if okR (qr s) ∧ line (qr s) = s then some (qr s) else none
theorem qd_is {s : List UInt8} {r : Rec} (h : qd s = some r) : okR r ∧ line r = s := by
  unfold qd at h
  split at h
  · rename_i h1
    injection h with h
    rw [← h]; exact h1
  · cases h
theorem tw_word {w R : List UInt8} (h : letters w = true) : ((w ++ 32 :: R).takeWhile fun b => b != 32) = w := by
  have : ∀ b ∈ w, (b != 32) = true := fun b hb => by
    have := List.all_eq_true.1 h b hb
    simp only [Bool.and_eq_true, decide_eq_true_eq] at this
    simp only [bne_iff_ne, ne_eq]
    rintro rfl
    exact absurd this (by decide)
  rw [List.takeWhile_append_of_pos this]
  simp
theorem qr_line {r : Rec} (h : okR r) : qr (line r) = r := by
  have hk := kind_mine h
  have hw := line_word h
  obtain ⟨_, ⟨hu, hu'⟩, ⟨ha, ha'⟩, hb, hb'⟩ := h
  obtain ⟨u1, _, u3⟩ := Num.itoa_digs hu
  obtain ⟨a1, _, a3⟩ := Num.itoa_digs ha
  obtain ⟨b1, _, b3⟩ := Num.itoa_digs hb
  have ul := Num.itoa_len hu 15 (by omega)
  have al := Num.itoa_len ha 15 (by omega)
  have bl := Num.itoa_len hb 15 (by omega)
  have et := line_parts r
  obtain ⟨k, u, a, b⟩ := r
  dsimp only at *
  generalize line ⟨k, u, a, b⟩ = s at *
  generalize Lib.itoa u = A at *
  generalize Lib.itoa a = B at *
  generalize Lib.itoa b = C at *
  generalize word k = W at *
  have hn : ∀ c : UInt8, c = 10 ∨ c = 32 → ¬ (48 ≤ c.toNat ∧ c.toNat ≤ 57) := fun c hc => by rcases hc with rfl | rfl <;> decide
  have e0 : atSp s = W.length := by
    unfold atSp
    rw [et, tw_word hw.1]
  have ew : s.take (atSp s) = W := by rw [e0, et]; simp
  have r1 : n1 s = (Num.val A, W.length + 1 + A.length) := by
    have := Num.go_digs A (W ++ [32]) (32 :: (B ++ 32 :: (C ++ 10 :: []))) u1 (fun c hc => hn c (.inr (by simpa using hc.symm))) 16 0 ul
    rw [show W ++ [32] ++ A ++ 32 :: (B ++ 32 :: (C ++ 10 :: [])) = s by rw [et]; simp] at this
    unfold n1
    rw [e0]
    simp only [List.length_append, List.length_cons, List.length_nil, Nat.zero_add] at this
    exact this
  have r2 : n2 s = (Num.val B, W.length + 1 + A.length + 1 + B.length) := by
    have := Num.go_digs B (W ++ [32] ++ A ++ [32]) (32 :: (C ++ 10 :: [])) a1 (fun c hc => hn c (.inr (by simpa using hc.symm))) 16 0 al
    rw [show W ++ [32] ++ A ++ [32] ++ B ++ 32 :: (C ++ 10 :: []) = s by rw [et]; simp] at this
    unfold n2
    rw [r1]
    simp only [List.length_append, List.length_cons, List.length_nil, Nat.zero_add] at this
    exact this
  have r3 : n3 s = (Num.val C, W.length + 1 + A.length + 1 + B.length + 1 + C.length) := by
    have := Num.go_digs C (W ++ [32] ++ A ++ [32] ++ B ++ [32]) (10 :: []) b1 (fun c hc => hn c (.inl (by simpa using hc.symm))) 16 0 bl
    rw [show W ++ [32] ++ A ++ [32] ++ B ++ [32] ++ C ++ 10 :: [] = s by rw [et]; simp] at this
    unfold n3
    rw [r2]
    simp only [List.length_append, List.length_cons, List.length_nil, Nat.zero_add] at this
    exact this
  unfold qr
  rw [ew, r1, r2, r3, hk, u3, a3, b3]
theorem qd_line {r : Rec} (h : okR r) : qd (line r) = some r := by
  unfold qd
  rw [qr_line h, if_pos ⟨h, rfl⟩]
theorem rd_eq (s : List UInt8) : rd s = qd s := by
  cases h : rd s with
  | some p =>
    obtain ⟨h1, h2⟩ := rd_is h
    rw [← h2, qd_line h1]
  | none =>
    cases h' : qd s with
    | none => rfl
    | some p =>
      obtain ⟨h1, h2⟩ := qd_is h'
      rw [← h2, rd_line h1] at h
      cases h
/-! ### Texts -/
/-- How many bytes the first line has, its end too; 0: there is no end. -/
def cut (s : List UInt8) : Nat := if 10 ∈ s then (s.takeWhile fun b => b != 10).length + 1 else 0
theorem cut_le (s : List UInt8) : cut s ≤ s.length := by
  unfold cut
  split
  · rename_i h
    induction s with
    | nil => cases h
    | cons b s ih =>
      by_cases hb : b = 10
      · subst hb; simp
      · have : 10 ∈ s := by
          rcases List.mem_cons.1 h with h | h
          · exact (hb h.symm).elim
          · exact h
        have := ih this
        rw [List.takeWhile_cons_of_pos (by simpa using hb)]
        simp only [List.length_cons]
        omega
  · omega
/-- The records so far, and whether the text was right. -/
def parse : Nat → List Rec → List UInt8 → List Rec × Bool
  | 0, out, _ => (out, true)
  | f + 1, out, s => if s = [] then (out, true) else match rd (s.take (cut s)) with
    | some r => parse f (out ++ [r]) (s.drop (cut s))
    | none => (out, false)
theorem line_cut {r : Rec} (h : okR r) (R : List UInt8) : cut (line r ++ R) = (line r).length := by
  have hw := line_word h
  obtain ⟨_, ⟨hu, _⟩, ⟨ha, _⟩, hb, _⟩ := h
  obtain ⟨u1, _, _⟩ := Num.itoa_digs hu
  obtain ⟨a1, _, _⟩ := Num.itoa_digs ha
  obtain ⟨b1, _, _⟩ := Num.itoa_digs hb
  obtain ⟨D, hD⟩ : ∃ D, D = word r.k ++ [32] ++ Lib.itoa r.u ++ [32] ++ Lib.itoa r.a ++ [32] ++ Lib.itoa r.b := ⟨_, rfl⟩
  have e : line r = D ++ [10] := by unfold line; rw [hD]
  have hd : ∀ b ∈ D, (b != 10) = true := fun b hm => by
    have sw := letters_solid hw.1
    have su := Num.digs_solid u1
    have sa := Num.digs_solid a1
    have sb := Num.digs_solid b1
    simp only [bne_iff_ne, ne_eq]
    rintro rfl
    rw [hD] at hm
    simp only [List.mem_append, List.mem_cons, List.not_mem_nil, or_false] at hm
    have q : Lib.isSp 10 = true := rfl
    rcases hm with (((((h | h) | h) | h) | h) | h) | h
    · exact absurd (sw _ h).2 (by rw [q]; simp)
    · exact absurd h (by decide)
    · exact absurd (su _ h).2 (by rw [q]; simp)
    · exact absurd h (by decide)
    · exact absurd (sa _ h).2 (by rw [q]; simp)
    · exact absurd h (by decide)
    · exact absurd (sb _ h).2 (by rw [q]; simp)
  unfold cut
  rw [e, if_pos (by simp), List.append_assoc, List.takeWhile_append_of_pos hd]
  simp
theorem parse_text : ∀ (l : List Rec) (f : Nat) (out : List Rec), l.length ≤ f → (∀ r ∈ l, okR r) → parse f out (text l) = (out ++ l, true)
  | [], 0, out, _, _ => by simp [parse]
  | [], f + 1, out, _, _ => by simp [parse, text]
  | r :: l, 0, out, h, _ => by simp at h
  | r :: l, f + 1, out, h, hr => by
    have h0 := hr r (by simp)
    have e : text (r :: l) = line r ++ text l := by simp [text]
    have hne : line r ++ text l ≠ [] := by
      rw [line_parts]
      simp
    rw [e, parse, if_neg hne, line_cut h0, List.take_left', List.drop_left' rfl, rd_line h0]
    · dsimp only
      rw [parse_text l f (out ++ [r]) (by simpa using h) (fun x hx => hr x (by simp [hx]))]
      simp
    · rfl
theorem tw_step (p : UInt8 → Bool) : ∀ (s : List UInt8) (k : Nat), k ≤ (s.takeWhile p).length → (k < (s.takeWhile p).length ↔ k < s.length ∧ p (s.getD k 0) = true)
  | [], k, h => by simp at h ⊢
  | b :: s, k, h => by
    by_cases hb : p b = true
    · rw [List.takeWhile_cons_of_pos hb] at h ⊢
      cases k with
      | zero => simp [hb]
      | succ k =>
        have := tw_step p s k (by simpa using h)
        simp only [List.length_cons, Nat.add_lt_add_iff_right, List.getD_cons_succ]
        exact this
    · rw [List.takeWhile_cons_of_neg hb] at h ⊢
      simp only [List.length_nil, Nat.le_zero] at h
      subst h
      simp [hb]
theorem tw_le (p : UInt8 → Bool) (s : List UInt8) : (s.takeWhile p).length ≤ s.length := by
  induction s with
  | nil => simp
  | cons b s ih =>
    by_cases hb : p b = true
    · rw [List.takeWhile_cons_of_pos hb]; simp only [List.length_cons]; omega
    · rw [List.takeWhile_cons_of_neg hb]; simp
theorem atSp_le (s : List UInt8) : atSp s ≤ s.length := tw_le _ s
theorem atSp_lt {s : List UInt8} {k : Nat} (h : k ≤ atSp s) : k < atSp s ↔ k < s.length ∧ s.getD k 0 ≠ 32 := by
  rw [show (s.getD k 0 ≠ 32) ↔ ((fun b : UInt8 => b != 32) (s.getD k 0) = true) by simp]
  exact tw_step _ s k h
/-- Where the first line's end is. -/
def atNl (s : List UInt8) : Nat := (s.takeWhile fun b => b != 10).length
theorem atNl_le (s : List UInt8) : atNl s ≤ s.length := tw_le _ s
theorem atNl_lt {s : List UInt8} {k : Nat} (h : k ≤ atNl s) : k < atNl s ↔ k < s.length ∧ s.getD k 0 ≠ 10 := by
  rw [show (s.getD k 0 ≠ 10) ↔ ((fun b : UInt8 => b != 10) (s.getD k 0) = true) by simp]
  exact tw_step _ s k h
theorem atNl_mem (s : List UInt8) : 10 ∈ s ↔ atNl s < s.length := by
  unfold atNl
  induction s with
  | nil => simp
  | cons b s ih =>
    by_cases hb : b = 10
    · subst hb; simp
    · rw [List.takeWhile_cons_of_pos (by simpa using hb)]
      simp only [List.mem_cons, List.length_cons, Nat.add_lt_add_iff_right]
      rw [← ih]
      constructor
      · rintro (h | h)
        · exact (hb h.symm).elim
        · exact h
      · exact .inr
theorem cut_nl (s : List UInt8) : cut s = if atNl s < s.length then atNl s + 1 else 0 := by
  unfold cut
  by_cases h : 10 ∈ s
  · rw [if_pos h, if_pos ((atNl_mem s).1 h)]; rfl
  · rw [if_neg h, if_neg (fun h' => h ((atNl_mem s).2 h'))]
theorem rd_nil : rd [] = none := by
  cases h : rd [] with
  | none => rfl
  | some r =>
    obtain ⟨_, h2⟩ := rd_is h
    rw [line_parts] at h2
    simp at h2
theorem go_le (s : List UInt8) : ∀ k i n, (Num.go s k i n).2 ≤ i + k ∧ (Num.go s k i n).1 + 1 ≤ (n + 1) * 10 ^ k ∧ i ≤ (Num.go s k i n).2
  | 0, i, n => by simp [Num.go]
  | k + 1, i, n => by
    have h1 : n + 1 ≤ (n + 1) * 10 ^ (k + 1) := Nat.le_mul_of_pos_right _ (Nat.pow_pos (by decide))
    unfold Num.go
    split
    · split
      · rename_i b _ h
        obtain ⟨h1, h2, h3⟩ := go_le s k (i + 1) (Num.add n b)
        refine ⟨by omega, Nat.le_trans h2 ?_, by omega⟩
        rw [Nat.pow_succ, Nat.mul_comm (10 ^ k) 10, ← Nat.mul_assoc]
        refine Nat.mul_le_mul_right _ ?_
        unfold Num.add
        omega
      · exact ⟨by omega, h1, Nat.le_refl _⟩
    · exact ⟨by omega, h1, Nat.le_refl _⟩
theorem n_lt (s : List UInt8) (i : Nat) : (Num.go s 16 i 0).1 < 10000000000000000 ∧ (Num.go s 16 i 0).2 ≤ i + 16 := by
  obtain ⟨h1, h2, _⟩ := go_le s 16 i 0
  exact ⟨by omega, h1⟩
theorem kindOf_le (w : List UInt8) : kindOf w ≤ 7 := kindTo_le w 7
theorem qr_ok (s : List UInt8) : (qr s).ok := by
  have h0 := kindOf_le (s.take (atSp s))
  have h1 : (n1 s).1 < 10000000000000000 := (n_lt s _).1
  have h2 : (n2 s).1 < 10000000000000000 := (n_lt s _).1
  have h3 : (n3 s).1 < 10000000000000000 := (n_lt s _).1
  refine ⟨⟨?_, ?_⟩, ⟨?_, ?_⟩, ⟨?_, ?_⟩, ?_, ?_⟩ <;> (unfold qr; dsimp only; omega)
end Jr
end Go.Proofs.YtdalneokgejmjaaDoor
