/-
  The words of a text: blanks more change nothing.
-/
import Derived.Test.YtokpkddeijfjjaaDoorSxC
namespace Go.Proofs.YtokpkddeijfjjaaDoor
open Go.Sx
set_option linter.unusedVariables false
namespace Lx
def isSp (c : UInt8) : Bool := c == 32 || c == 9 || c == 10
def isL (c : UInt8) : Bool := decide (97 ≤ c.toNat) && decide (c.toNat ≤ 122)
def isD (c : UInt8) : Bool := decide (48 ≤ c.toNat) && decide (c.toNat ≤ 57)
def isS (c : UInt8) : Bool := c == 40 || c == 41 || c == 59 || c == 124 || c == 61
def notNl (c : UInt8) : Bool := !(c == 10)
theorem tw_all {p : UInt8 → Bool} : ∀ {l : List UInt8} {x : UInt8}, x ∈ l.takeWhile p → p x = true
  | [], _, h => by simp at h
  | c :: l, x, h => by
    by_cases hc : p c = true
    · rw [List.takeWhile_cons_of_pos hc] at h
      rcases List.mem_cons.1 h with e | h
      · rw [e]; exact hc
      · exact tw_all h
    · rw [List.takeWhile_cons_of_neg hc] at h; cases h
theorem tw_ext {p : UInt8 → Bool} : ∀ {a r : List UInt8}, (∀ x ∈ a, p x = true) → (∀ c t, r = c :: t → p c = false) → (a ++ r).takeWhile p = a ∧ (a ++ r).dropWhile p = r
  | [], [], _, _ => ⟨rfl, rfl⟩
  | [], c :: r, _, h => by
    have := h c r rfl
    constructor
    · rw [List.nil_append, List.takeWhile_cons_of_neg (by rw [this]; decide)]
    · rw [List.nil_append, List.dropWhile_cons_of_neg (by rw [this]; decide)]
  | x :: a, r, h, h2 => by
    have hx := h x (by simp)
    have ih := tw_ext (a := a) (r := r) (fun y hy => h y (List.mem_cons_of_mem _ hy)) h2
    constructor
    · rw [List.cons_append, List.takeWhile_cons_of_pos hx, ih.1]
    · rw [List.cons_append, List.dropWhile_cons_of_pos hx, ih.2]
theorem dw_head {p : UInt8 → Bool} : ∀ {l : List UInt8} {c : UInt8} {t : List UInt8}, l.dropWhile p = c :: t → p c = false
  | [], _, _, h => by simp at h
  | x :: l, c, t, h => by
    by_cases hx : p x = true
    · rw [List.dropWhile_cons_of_pos hx] at h; exact dw_head h
    · rw [List.dropWhile_cons_of_neg hx] at h
      injection h with h1 _
      rw [← h1]; simpa using hx
theorem dw_len {p : UInt8 → Bool} (l : List UInt8) : (l.dropWhile p).length ≤ l.length := by
  have := congrArg List.length (List.takeWhile_append_dropWhile (p := p) (l := l))
  simp only [List.length_append] at this
  omega
def skip (t : List UInt8) : List UInt8 :=
  match h : t.dropWhile isSp with
  | [] => []
  | c :: r => if c = 35 then skip (r.dropWhile notNl) else c :: r
termination_by t.length
decreasing_by
  have h1 := dw_len (p := isSp) t
  have h2 := dw_len (p := notNl) r
  rw [h] at h1
  simp only [List.length_cons] at h1
  omega
theorem skip_nil {t : List UInt8} (h : t.dropWhile isSp = []) : skip t = [] := by
  rw [skip]
  split
  · rfl
  · rename_i e; rw [h] at e; cases e
theorem skip_cons {t r : List UInt8} {c : UInt8} (h : t.dropWhile isSp = c :: r) : skip t = if c = 35 then skip (r.dropWhile notNl) else c :: r := by
  rw [skip]
  split
  · rename_i e; rw [h] at e; cases e
  · rename_i c' r' e
    rw [h] at e
    injection e with e1 e2
    rw [e1, e2]
theorem skip_len : ∀ (n : Nat) (t : List UInt8), t.length ≤ n → (skip t).length ≤ t.length
  | 0, t, h => by
    have : t = [] := List.eq_nil_of_length_eq_zero (by omega)
    subst this
    rw [skip_nil rfl]; exact Nat.le_refl _
  | n + 1, t, h => by
    have h1 := dw_len (p := isSp) t
    cases hd : t.dropWhile isSp with
    | nil => rw [skip_nil hd]; simp
    | cons c r =>
      rw [hd] at h1
      simp only [List.length_cons] at h1
      rw [skip_cons hd]
      split
      · have h2 := dw_len (p := notNl) r
        have := skip_len n (r.dropWhile notNl) (by omega)
        omega
      · simp only [List.length_cons]; omega
/-- What is skipped may be followed by anything. -/
theorem skip_split : ∀ (n : Nat) (t : List UInt8), t.length ≤ n → skip t ≠ [] → ∃ b, t = b ++ skip t ∧ ∀ y, (∀ c r, y = c :: r → isSp c = false ∨ True) → skip (b ++ y) = skip y
  | 0, t, h, hne => by
    have : t = [] := List.eq_nil_of_length_eq_zero (by omega)
    subst this
    rw [skip_nil rfl] at hne
    exact (hne rfl).elim
  | n + 1, t, h, hne => by
    have ht := List.takeWhile_append_dropWhile (p := isSp) (l := t)
    have hall : ∀ x ∈ t.takeWhile isSp, isSp x = true := fun x hx => tw_all hx
    have h1 := dw_len (p := isSp) t
    have key : ∀ (a y : List UInt8), (∀ x ∈ a, isSp x = true) → skip (a ++ y) = skip y := by
      intro a y ha
      have e : (a ++ y).dropWhile isSp = y.dropWhile isSp := by
        induction a with
        | nil => rfl
        | cons x a ih => rw [List.cons_append, List.dropWhile_cons_of_pos (ha x (by simp))]; exact ih fun z hz => ha z (List.mem_cons_of_mem _ hz)
      cases hy : y.dropWhile isSp with
      | nil => rw [skip_nil (e.trans hy), skip_nil hy]
      | cons c r => rw [skip_cons (e.trans hy), skip_cons hy]
    cases hd : t.dropWhile isSp with
    | nil => rw [skip_nil hd] at hne; exact (hne rfl).elim
    | cons c r =>
      rw [hd] at h1
      simp only [List.length_cons] at h1
      have hs := skip_cons hd
      by_cases hc : c = 35
      · rw [if_pos hc] at hs
        have h2 := dw_len (p := notNl) r
        have hr := List.takeWhile_append_dropWhile (p := notNl) (l := r)
        rw [hs] at hne
        cases hd2 : r.dropWhile notNl with
        | nil =>
          rw [hd2, skip_nil rfl] at hne
          exact (hne rfl).elim
        | cons d r2 =>
          have hnl : d = 10 := by
            have := dw_head hd2
            unfold notNl at this
            simpa using this
          have h3 : (r.dropWhile notNl).length ≤ n := by omega
          obtain ⟨b, hb, hy⟩ := skip_split n (r.dropWhile notNl) h3 hne
          refine ⟨t.takeWhile isSp ++ (c :: (r.takeWhile notNl ++ b)), ?_, fun y hyy => ?_⟩
          · rw [hs, List.append_assoc, List.cons_append, List.append_assoc, ← hb, hr, ← hd, ht]
          · rw [List.append_assoc, key _ _ hall]
            have hbne : b ≠ [] ∨ skip (r.dropWhile notNl) = r.dropWhile notNl := by
              by_cases e : b = []
              · right; rw [e] at hb; exact hb.symm
              · exact .inl e
            have hsp : isSp d = true := by rw [hnl]; decide
            have hbn : b ≠ [] := by
              rcases hbne with h | h
              · exact h
              · intro e
                have e2 : skip (d :: r2) = d :: r2 := by rw [← hd2]; exact h
                have e3 := key [d] r2 (fun x hx => by rw [List.mem_singleton.1 hx]; exact hsp)
                have e4 := skip_len r2.length r2 (Nat.le_refl _)
                have e5 : (skip (d :: r2)).length ≤ r2.length := by
                  have : skip (d :: r2) = skip r2 := e3
                  rw [this]; exact e4
                rw [e2] at e5
                simp only [List.length_cons] at e5
                omega
            obtain ⟨b0, b1, rfl⟩ : ∃ b0 b1, b = b0 :: b1 := by
              cases b with
              | nil => exact (hbn rfl).elim
              | cons b0 b1 => exact ⟨_, _, rfl⟩
            have hb0 : b0 = d := by
              rw [hd2] at hb
              injection hb with e _
              exact e.symm
            have ew : (r.takeWhile notNl ++ (b0 :: b1) ++ y).dropWhile notNl = b0 :: b1 ++ y := by
              rw [List.append_assoc]
              refine (tw_ext (fun x hx => tw_all hx) fun c' t' e => ?_).2
              rw [List.cons_append] at e
              injection e with e _
              rw [← e, hb0, hnl]; decide
            have ed : (c :: (r.takeWhile notNl ++ (b0 :: b1)) ++ y).dropWhile isSp = c :: (r.takeWhile notNl ++ (b0 :: b1) ++ y) := by
              rw [List.cons_append, List.dropWhile_cons_of_neg]
              rw [hc]; decide
            rw [skip_cons ed, if_pos hc, ew]
            exact hy y hyy
      · rw [if_neg hc] at hs
        refine ⟨t.takeWhile isSp, ?_, fun y _ => key _ _ hall⟩
        rw [hs, ← hd, ht]
/-! ### Tokens -/
structure B where
  k : Int
  n : Int
  s : List UInt8
def num (d : List UInt8) : Nat := d.foldl (fun n c => 10 * n + (c.toNat - 48)) 0
/-- The token that begins a text, and how many bytes it has. -/
def nextB : List UInt8 → Option (B × Nat)
  | [] => none
  | c :: r =>
    if isL c = true then some (⟨1, 0, (c :: r).takeWhile isL⟩, ((c :: r).takeWhile isL).length)
    else if isD c = true then
      (if 3 < ((c :: r).takeWhile isD).length ∨ (1 < ((c :: r).takeWhile isD).length ∧ c = 48) then none
       else some (⟨2, num ((c :: r).takeWhile isD), []⟩, ((c :: r).takeWhile isD).length))
    else if c = 58 ∧ r.head? = some 61 then some (⟨3, 0, [58, 61]⟩, 2)
    else if isS c = true then some (⟨3, 0, [c]⟩, 1)
    else none
theorem nextB_eq (c : UInt8) (r : List UInt8) : nextB (c :: r) =
    if isL c = true then some (⟨1, 0, (c :: r).takeWhile isL⟩, ((c :: r).takeWhile isL).length)
    else if isD c = true then
      (if 3 < ((c :: r).takeWhile isD).length ∨ (1 < ((c :: r).takeWhile isD).length ∧ c = 48) then none
       else some (⟨2, num ((c :: r).takeWhile isD), []⟩, ((c :: r).takeWhile isD).length))
    else if c = 58 ∧ r.head? = some 61 then some (⟨3, 0, [58, 61]⟩, 2)
    else if isS c = true then some (⟨3, 0, [c]⟩, 1)
    else none := rfl
theorem tw_take (p : UInt8 → Bool) (l : List UInt8) : l.take (l.takeWhile p).length = l.takeWhile p ∧ l.drop (l.takeWhile p).length = l.dropWhile p := by
  have ht := List.takeWhile_append_dropWhile (p := p) (l := l)
  have h1 := List.take_left (l₁ := l.takeWhile p) (l₂ := l.dropWhile p)
  have h2 := List.drop_left (l₁ := l.takeWhile p) (l₂ := l.dropWhile p)
  rw [ht] at h1 h2
  exact ⟨h1, h2⟩
theorem nextB_pos {t : List UInt8} {b : B} {n : Nat} (h : nextB t = some (b, n)) : 1 ≤ n ∧ n ≤ t.length := by
  cases t with
  | nil => cases h
  | cons c r =>
    rw [nextB_eq] at h
    have hl : ∀ p : UInt8 → Bool, ((c :: r).takeWhile p).length ≤ (c :: r).length := fun p => by
      have := congrArg List.length (List.takeWhile_append_dropWhile (p := p) (l := c :: r))
      simp only [List.length_append] at this
      omega
    split at h
    · rename_i hc
      injection h with h; injection h with _ h
      have := hl isL
      rw [← h]
      refine ⟨?_, this⟩
      rw [List.takeWhile_cons_of_pos hc]; simp
    split at h
    · rename_i hc
      split at h
      · cases h
      injection h with h; injection h with _ h
      have := hl isD
      rw [← h]
      refine ⟨?_, this⟩
      rw [List.takeWhile_cons_of_pos hc]; simp
    split at h
    · rename_i hc
      injection h with h; injection h with _ h
      rw [← h]
      cases r with
      | nil => simp at hc
      | cons d r => simp
    split at h
    · injection h with h; injection h with _ h
      rw [← h]; simp
    · cases h
/-- What follows a token does not matter, if it does not go on in it. -/
theorem nextB_ext {t : List UInt8} {b : B} {n : Nat} (h : nextB t = some (b, n)) {y : List UInt8} (hy : ∀ c r, y = c :: r → (isL c = false ∧ isD c = false) ∨ (t.drop n).head? = some c) : nextB (t.take n ++ y) = some (b, n) := by
  cases t with
  | nil => cases h
  | cons c r =>
    rw [nextB_eq] at h
    split at h
    · rename_i hc
      injection h with h; injection h with h1 h2
      have e1 : (c :: r).take n = (c :: r).takeWhile isL := by rw [← h2]; exact (tw_take _ _).1
      have e2 : (c :: r).drop n = (c :: r).dropWhile isL := by rw [← h2]; exact (tw_take _ _).2
      have hx := tw_ext (p := isL) (a := (c :: r).takeWhile isL) (r := y) (fun x hx => tw_all hx) fun d u e => by
        rcases hy d u e with h | h
        · exact h.1
        · rw [e2] at h
          cases hd : (c :: r).dropWhile isL with
          | nil => rw [hd] at h; cases h
          | cons d' u' =>
            rw [hd] at h
            injection h with h
            rw [← h]; exact dw_head hd
      rw [e1]
      obtain ⟨a, ha⟩ : ∃ a, (c :: r).takeWhile isL = c :: a := ⟨_, List.takeWhile_cons_of_pos hc⟩
      rw [← h1, ← h2]
      rw [ha] at hx ⊢
      rw [List.cons_append] at hx ⊢
      rw [nextB_eq]
      rw [if_pos hc, hx.1]
    split at h
    · rename_i hcl hc
      split at h
      · cases h
      rename_i hno
      injection h with h; injection h with h1 h2
      have e1 : (c :: r).take n = (c :: r).takeWhile isD := by rw [← h2]; exact (tw_take _ _).1
      have e2 : (c :: r).drop n = (c :: r).dropWhile isD := by rw [← h2]; exact (tw_take _ _).2
      have hx := tw_ext (p := isD) (a := (c :: r).takeWhile isD) (r := y) (fun x hx => tw_all hx) fun d u e => by
        rcases hy d u e with h | h
        · exact h.2
        · rw [e2] at h
          cases hd : (c :: r).dropWhile isD with
          | nil => rw [hd] at h; cases h
          | cons d' u' =>
            rw [hd] at h
            injection h with h
            rw [← h]; exact dw_head hd
      rw [e1]
      obtain ⟨a, ha⟩ : ∃ a, (c :: r).takeWhile isD = c :: a := ⟨_, List.takeWhile_cons_of_pos hc⟩
      rw [← h1, ← h2]
      rw [ha] at hx hno ⊢
      rw [List.cons_append] at hx ⊢
      rw [nextB_eq]
      rw [if_neg hcl, if_pos hc, hx.1, if_neg hno]
    split at h
    · rename_i hcl hcd hc
      injection h with h; injection h with h1 h2
      rw [← h1, ← h2]
      cases r with
      | nil => simp at hc
      | cons d r =>
        have hd : d = 61 := by simpa using hc.2
        rw [hd, hc.1]
        rw [List.take_succ_cons, List.take_succ_cons, List.take_zero, List.cons_append, nextB_eq]
        rw [if_neg (by decide), if_neg (by decide), if_pos ⟨rfl, rfl⟩]
    split at h
    · rename_i hcl hcd hce hc
      injection h with h; injection h with h1 h2
      rw [← h1, ← h2]
      rw [List.take_succ_cons, List.take_zero, List.cons_append, List.nil_append]
      rw [nextB_eq]
      rw [if_neg hcl, if_neg hcd, if_neg (fun e => by rw [e.1] at hc; revert hc; decide), if_pos hc]
    · cases h
/-- All tokens, each with the text that it begins. -/
def toks (t : List UInt8) : Option (List (B × List UInt8)) :=
  match h : skip t with
  | [] => some []
  | c :: r =>
    match h2 : nextB (c :: r) with
    | none => none
    | some (b, n) => (toks ((c :: r).drop n)).map ((b, c :: r) :: ·)
termination_by t.length
decreasing_by
  have h1 := skip_len t.length t (Nat.le_refl _)
  rw [h] at h1
  have h3 := nextB_pos h2
  rw [List.length_drop]
  simp only [List.length_cons] at *
  omega
theorem toks_nil {t : List UInt8} (h : skip t = []) : toks t = some [] := by
  rw [toks]
  split
  · rfl
  · rename_i e; rw [h] at e; cases e
theorem toks_none {t : List UInt8} (h : skip t ≠ []) (h2 : nextB (skip t) = none) : toks t = none := by
  rw [toks]
  split
  · rename_i e; exact (h e).elim
  · rename_i c r e
    split
    · rfl
    · rename_i b n e2
      rw [e] at h2
      rw [h2] at e2; cases e2
theorem toks_cons {t : List UInt8} {b : B} {n : Nat} (h : skip t ≠ []) (h2 : nextB (skip t) = some (b, n)) : toks t = (toks ((skip t).drop n)).map ((b, skip t) :: ·) := by
  rw [toks]
  split
  · rename_i e; exact (h e).elim
  · rename_i c r e
    split
    · rename_i e2
      rw [e] at h2
      rw [h2] at e2; cases e2
    · rename_i b' n' e2
      rw [e] at h2 ⊢
      rw [h2] at e2
      injection e2 with e2
      injection e2 with e3 e4
      subst e3 e4
      rfl
/-! ### Blanks more -/
theorem skip_head : ∀ (n : Nat) (t : List UInt8), t.length ≤ n → ∀ {c r}, skip t = c :: r → isSp c = false ∧ c ≠ 35
  | 0, t, h, c, r, e => by
    have : t = [] := List.eq_nil_of_length_eq_zero (by omega)
    subst this
    rw [skip_nil rfl] at e; cases e
  | n + 1, t, h, c, r, e => by
    have h1 := dw_len (p := isSp) t
    cases hd : t.dropWhile isSp with
    | nil => rw [skip_nil hd] at e; cases e
    | cons d q =>
      rw [hd] at h1
      simp only [List.length_cons] at h1
      rw [skip_cons hd] at e
      split at e
      · have h2 := dw_len (p := notNl) q
        exact skip_head n _ (by omega) e
      · rename_i hc
        injection e with e1 e2
        subst e1
        exact ⟨dw_head hd, hc⟩
theorem skip_id {c : UInt8} {r : List UInt8} (h : isSp c = false) (h2 : c ≠ 35) : skip (c :: r) = c :: r := by
  have e : (c :: r).dropWhile isSp = c :: r := List.dropWhile_cons_of_neg (by rw [h]; decide)
  rw [skip_cons e, if_neg h2]
def blank (remark : List UInt8) : List UInt8 := 9 :: 32 :: 35 :: (remark ++ [10])
theorem skip_blank {remark : List UInt8} (h : ∀ c ∈ remark, c ≠ 10) (u : List UInt8) : skip (blank remark ++ u) = skip u := by
  have e : (blank remark ++ u).dropWhile isSp = 35 :: (remark ++ (10 :: u)) := by
    unfold blank
    rw [List.cons_append, List.cons_append, List.cons_append, List.dropWhile_cons_of_pos (by decide), List.dropWhile_cons_of_pos (by decide), List.dropWhile_cons_of_neg (by decide), List.append_assoc]
    rfl
  have e2 : (remark ++ (10 :: u)).dropWhile notNl = 10 :: u := (tw_ext (fun x hx => by unfold notNl; simpa using h x hx) fun c t e => by injection e with e _; rw [← e]; decide).2
  rw [skip_cons e, if_pos rfl, e2]
  have e3 : (10 :: u).dropWhile isSp = u.dropWhile isSp := List.dropWhile_cons_of_pos (by decide)
  cases hu : u.dropWhile isSp with
  | nil => rw [skip_nil (e3.trans hu), skip_nil hu]
  | cons c r => rw [skip_cons (e3.trans hu), skip_cons hu]
theorem toks_skip {t y : List UInt8} (h : skip t = skip y) : toks t = toks y := by
  by_cases hn : skip y = []
  · rw [toks_nil hn, toks_nil (h.trans hn)]
  · cases h2 : nextB (skip y) with
    | none => rw [toks_none hn h2, toks_none (by rw [h]; exact hn) (by rw [h]; exact h2)]
    | some q =>
      obtain ⟨b, n⟩ := q
      rw [toks_cons hn h2, toks_cons (by rw [h]; exact hn) (by rw [h]; exact h2), h]
theorem ins {remark : List UInt8} (hr : ∀ c ∈ remark, c ≠ 10) : ∀ (n : Nat) (t : List UInt8), t.length ≤ n → ∀ (L : List (B × List UInt8)), toks t = some L → ∀ (k : Nat) (b : B) (u : List UInt8), L[k]? = some (b, u) →
    ∃ (p : List UInt8) (L' : List (B × List UInt8)), t = p ++ u ∧ toks (p ++ (blank remark ++ u)) = some L' ∧ L'.map (·.1) = L.map (·.1)
  | 0, t, h, L, hL, k, b, u, hk => by
    have : t = [] := List.eq_nil_of_length_eq_zero (by omega)
    subst this
    rw [toks_nil (skip_nil rfl)] at hL
    injection hL with hL
    subst hL
    simp at hk
  | n + 1, t, h, L, hL, k, b, u, hk => by
    by_cases hs : skip t = []
    · rw [toks_nil hs] at hL
      injection hL with hL
      subst hL
      simp at hk
    cases h2 : nextB (skip t) with
    | none => rw [toks_none hs h2] at hL; cases hL
    | some q =>
      obtain ⟨b0, m⟩ := q
      rw [toks_cons hs h2] at hL
      obtain ⟨L2, hL2, rfl⟩ := Option.map_eq_some_iff.1 hL
      obtain ⟨bl, hb, hbl⟩ := skip_split t.length t (Nat.le_refl _) hs
      have hpos := nextB_pos h2
      have hlen := skip_len t.length t (Nat.le_refl _)
      obtain ⟨c, r, hcr⟩ : ∃ c r, skip t = c :: r := by
        cases he : skip t with
        | nil => exact (hs he).elim
        | cons c r => exact ⟨c, r, rfl⟩
      have hhd := skip_head t.length t (Nat.le_refl _) hcr
      cases k with
      | zero =>
        simp only [List.getElem?_cons_zero, Option.some.injEq, Prod.mk.injEq] at hk
        obtain ⟨rfl, rfl⟩ := hk
        refine ⟨bl, _, hb, ?_, rfl⟩
        have e : skip (bl ++ (blank remark ++ skip t)) = skip t := by
          rw [hbl _ (fun _ _ _ => .inr trivial), skip_blank hr, hcr, skip_id hhd.1 hhd.2]
        rw [toks_skip e, toks_cons hs h2, hL2]
        rfl
      | succ k =>
        simp only [List.getElem?_cons_succ] at hk
        obtain ⟨p2, L3, hp2, hL3, hm⟩ := ins hr n ((skip t).drop m) (by rw [List.length_drop]; omega) L2 hL2 k b u hk
        have htake := List.take_append_drop m (skip t)
        refine ⟨bl ++ (skip t).take m ++ p2, (b0, (skip t).take m ++ (p2 ++ (blank remark ++ u))) :: L3, ?_, ?_, ?_⟩
        · rw [List.append_assoc, List.append_assoc, ← hp2, htake]; exact hb
        · have e0 : bl ++ (skip t).take m ++ p2 ++ (blank remark ++ u) = bl ++ ((skip t).take m ++ (p2 ++ (blank remark ++ u))) := by simp only [List.append_assoc]
          have hy : ∀ d q, p2 ++ (blank remark ++ u) = d :: q → (isL d = false ∧ isD d = false) ∨ ((skip t).drop m).head? = some d := fun d q e => by
            cases p2 with
            | nil =>
              left
              unfold blank at e
              rw [List.nil_append, List.cons_append] at e
              injection e with e _
              rw [← e]; decide
            | cons d' p3 =>
              right
              rw [List.cons_append] at e
              injection e with e _
              rw [hp2, List.cons_append, e]; rfl
          have h3 := nextB_ext h2 hy
          have e1 : skip ((skip t).take m ++ (p2 ++ (blank remark ++ u))) = (skip t).take m ++ (p2 ++ (blank remark ++ u)) := by
            obtain ⟨m', rfl⟩ : ∃ m', m = m' + 1 := ⟨m - 1, by omega⟩
            rw [hcr, List.take_succ_cons, List.cons_append]
            exact skip_id hhd.1 hhd.2
          have e2 : skip (bl ++ ((skip t).take m ++ (p2 ++ (blank remark ++ u)))) = (skip t).take m ++ (p2 ++ (blank remark ++ u)) := by rw [hbl _ (fun _ _ _ => .inr trivial), e1]
          have hne : (skip t).take m ++ (p2 ++ (blank remark ++ u)) ≠ [] := by
            obtain ⟨m', rfl⟩ : ∃ m', m = m' + 1 := ⟨m - 1, by omega⟩
            rw [hcr, List.take_succ_cons, List.cons_append]; simp
          have hlt : ((skip t).take m).length = m := by rw [List.length_take]; omega
          have hdr : ((skip t).take m ++ (p2 ++ (blank remark ++ u))).drop m = p2 ++ (blank remark ++ u) := by
            have := List.drop_left (l₁ := (skip t).take m) (l₂ := p2 ++ (blank remark ++ u))
            rwa [hlt] at this
          rw [e0, toks_cons (by rw [e2]; exact hne) (by rw [e2]; exact h3), e2, hdr, hL3]
          rfl
        · simp only [List.map_cons, hm]
end Lx
end Go.Proofs.YtokpkddeijfjjaaDoor
