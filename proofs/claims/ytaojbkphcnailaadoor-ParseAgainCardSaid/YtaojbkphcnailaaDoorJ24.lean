import Derived.Test.YtaojbkphcnailaaDoorJ23
namespace Go.Proofs.YtaojbkphcnailaaDoor
open Go.Sx
set_option maxRecDepth 20000
set_option linter.unusedVariables false
namespace Ps
open Lx (B)
theorem jn_len (sep : B) (f g : List B → Nat) : ∀ ls : List (List B), ls ≠ [] → (jn [sep] ls).length + 1 = (ls.map List.length).sum + ls.length
  | [x], _ => by simp [jn]
  | x :: y :: r, _ => by
    have h := jn_len sep f g (y :: r) (List.cons_ne_nil _ _)
    simp only [jn, List.length_append, List.map_cons, List.flatten_cons, List.length_cons, List.length_nil, List.sum_cons] at *
    omega
theorem sum_ge {α : Type} {f g : α → Nat} : ∀ l : List α, (∀ x ∈ l, f x ≤ g x) → (l.map f).sum ≤ (l.map g).sum
  | [], _ => Nat.le_refl _
  | x :: l, h => by
    have h1 := h x (by simp)
    have h2 := sum_ge l fun y hy => h y (by simp [hy])
    simp only [List.map_cons, List.sum_cons]
    omega
theorem sizeL_sum (l : List Pd.T) : Pd.sizeL l = (l.map Pd.size).sum := by
  induction l with
  | nil => rfl
  | cons x l ih => rw [Pd.sizeL, ih]; rfl
theorem innW_len (k : Int) (s : List B) : s.length ≤ (innW k s).length := by
  unfold innW
  split
  · simp only [List.length_cons, List.length_append]; omega
  · exact Nat.le_refl _
theorem ws_len : ∀ (n : Nat) (p : Pd.T), Pd.size p ≤ n → Pd.fits p = true → Pd.size p ≤ (ws p).length
  | 0, p, hn, _ => absurd (Pd.size_pos p) (by omega)
  | n + 1, ⟨k, f, v, xs⟩, hn, hf => by
    obtain ⟨hsh, hfx⟩ := Pd.fits_mk hf
    have hsz : ∀ x ∈ xs, Pd.size x ≤ n := fun x hx => by have := Pd.size_lt (k := k) (f := f) (v := v) hx; omega
    have ih := sum_ge (f := Pd.size) (g := fun p => (innW p.k (ws p)).length) xs fun x hx => Nat.le_trans (ws_len n x (hsz x hx) (hfx x hx)) (innW_len _ _)
    have e : (xs.map fun p => (innW p.k (ws p)).length).sum = ((wsL xs).map List.length).sum := by rw [wsL_map, List.map_map]; rfl
    rw [Pd.size, ws, sizeL_sum]
    rw [e] at ih
    rcases hsh with ⟨rfl, hf3, hv, hx⟩ | ⟨rfl | rfl, rfl, rfl, hx⟩ | ⟨rfl, rfl, rfl, hx⟩ | ⟨hk, _, _, h2, _⟩
    · obtain rfl := List.length_eq_zero_iff.1 hx
      rw [if_neg (by decide), if_neg (by decide), if_pos rfl]
      show 1 + 0 ≤ 3
      omega
    · obtain rfl := List.length_eq_zero_iff.1 hx
      decide
    · obtain rfl := List.length_eq_zero_iff.1 hx
      decide
    · obtain ⟨x, rfl⟩ := List.length_eq_one_iff.1 hx
      rw [if_neg (by decide), if_neg (by decide), if_neg (by decide), if_pos rfl]
      simp only [wsL, jn, List.map_cons, List.map_nil, List.sum_cons, List.sum_nil, List.flatten_nil, List.append_nil, List.length_cons] at *
      omega
    · rw [if_neg (by omega), if_neg (by omega), if_neg (by omega), if_neg (by omega)]
      have hne : wsL xs ≠ [] := by
        rw [wsL_map]
        intro h
        have := congrArg List.length h
        simp at this
        rw [this] at h2
        simp at h2
      have hl : (wsL xs).length = xs.length := by rw [wsL_map, List.length_map]
      obtain ⟨w, hw⟩ : ∃ w, sepW k = [w] := by unfold sepW; split <;> exact ⟨_, rfl⟩
      rw [hw]
      have := jn_len w (fun _ => 0) (fun _ => 0) (wsL xs) hne
      omega
mutual
def ms : Po.T → Nat
  | .mk k _ _ _ l => (if k = 5 then 2 else 1) + msL l
def msL : List Po.T → Nat
  | [] => 0
  | x :: l => ms x + msL l
end
theorem ms_pos : ∀ x : Po.T, 1 ≤ ms x
  | .mk k _ _ _ l => by rw [ms]; split <;> omega
theorem msL_sum (l : List Po.T) : msL l = (l.map ms).sum := by
  induction l with
  | nil => rfl
  | cons x l ih => rw [msL, ih]; rfl
theorem msL_mem : ∀ {l : List Po.T} {x : Po.T}, x ∈ l → ms x ≤ msL l
  | y :: l, x, h => by
    rw [msL]
    rcases List.mem_cons.1 h with rfl | h
    · omega
    · have := msL_mem h; omega
theorem innP_len (k : Int) (s : List B) : s.length ≤ (innP k s).length := by
  unfold innP
  split
  · exact Nat.le_refl _
  · simp only [List.length_cons, List.length_append]; omega
theorem wp_len : ∀ (n : Nat) (p : Po.T), ms p ≤ n → Po.fits p = true → ms p ≤ (wp p).length
  | 0, p, hn, _ => absurd (ms_pos p) (by omega)
  | n + 1, ⟨k, c, f, v, xs⟩, hn, hf => by
    obtain ⟨hsh, hfx⟩ := Po.fits_iff.1 hf
    have hsz : ∀ x ∈ xs, ms x ≤ n := fun x hx => by
      have := msL_mem hx
      rw [ms] at hn
      split at hn <;> omega
    have ih := sum_ge (f := ms) (g := fun p => (innP p.k (wp p)).length) xs fun x hx => Nat.le_trans (wp_len n x (hsz x hx) (hfx x hx)) (innP_len _ _)
    have e : (xs.map fun p => (innP p.k (wp p)).length).sum = ((wpL xs).map List.length).sum := by rw [wpL_map, List.map_map]; rfl
    rw [ms, wp, msL_sum]
    rw [e] at ih
    have hjl : ∀ w, xs ≠ [] → (jn [w] (wpL xs)).length + 1 = ((wpL xs).map List.length).sum + xs.length := fun w h => by
      have hl : (wpL xs).length = xs.length := by rw [wpL_map, List.length_map]
      have hne : wpL xs ≠ [] := fun h2 => h (List.length_eq_zero_iff.1 (by rw [← hl, h2]; rfl))
      rw [← hl]
      exact jn_len w (fun _ => 0) (fun _ => 0) (wpL xs) hne
    rcases hsh with ⟨rfl, hr, _, hx⟩ | ⟨rfl, _, hf2, hv, hx⟩ | ⟨hk, _, _, hl1, hl2⟩ | ⟨rfl, hr, _, hx⟩
    · obtain rfl := List.length_eq_zero_iff.1 hx
      rw [if_neg (by decide), if_pos rfl]
      have : 1 ≤ (filW c).length := by
        unfold filW
        repeat' split
        all_goals simp
      simpa using this
    · obtain rfl := List.length_eq_zero_iff.1 hx
      rw [if_neg (by decide), if_neg (by decide), if_pos rfl]
      simp
    · rw [if_neg (by omega), if_neg (by omega), if_neg (by omega), if_neg (by omega), List.nil_append]
      obtain ⟨w, hw⟩ : ∃ w, sepP k = [w] := by unfold sepP; repeat' split
                                               all_goals exact ⟨_, rfl⟩
      rw [hw]
      have := hjl w (by rintro rfl; simp at hl1)
      omega
    · rw [if_pos rfl, if_neg (by decide), if_neg (by decide), if_pos rfl, List.length_append]
      have := hjl (W wElse) (by rintro rfl; simp at hx)
      have e5 : sepP 5 = [W wElse] := rfl
      rw [e5]
      simp only [List.length_cons, List.length_append, List.length_nil]
      omega
def rP (R : List B) : Prop := cP R ∧ nis R wSemi
def pP (R : List B) : Prop := cP R ∧ nis R wSemi ∧ nis R wBar
theorem cP_of {b : B} {M : List B} (h1 : isB b wAnd = false) (h2 : isB b wOr = false) : cP (b :: M) := ⟨⟨_, _, rfl, h1⟩, ⟨_, _, rfl, h2⟩⟩
theorem cond_all {l : List B} {c : Pd.T} (hr : Pd.right c = true) {i : Nat} {R : List B} (hR : cP R) (hd : l.drop i = ws c ++ R) : cond l (part l l.length) i = .ok c (i + (ws c).length) := by
  have hf := right_fits hr
  refine cond_of ?_ hf hR hd
  have h1 := ws_len _ c (Nat.le_refl _) hf
  have h2 := congrArg List.length hd
  rw [List.length_drop, List.length_append] at h2
  omega
theorem step_go {l : List B} {n i : Nat} {b : B} (h : tk l i = b) (h1 : isB b wDrop = false) (h2 : isB b wId = false) (h3 : isB b wWhen = false) (h4 : isB b wIf = false) (h5 : isB b wOpen = false) : step l (n + 1) i = match assign l 5 wSet i with
      | .ok (f, v) j => .ok (.mk 2 none26 f v []) j
      | .bad j => .bad j := by
  rw [step]
  simp only [is_eq, h, h1, h2, h3, h4, h5, Bool.false_eq_true, if_false]
  rcases assign l 5 wSet i with ⟨⟨f, v⟩, j⟩ | j <;> rfl
theorem step_open {l : List B} {n i : Nat} (h : tk l i = S wOpen) : step l (n + 1) i = shut l (rows l (step l n) (i + 1)) := by
  rw [step]
  simp only [is_eq, h]
  rfl
theorem step_when {l : List B} {n i : Nat} (h : tk l i = W wWhen) : step l (n + 1) i = match cond l (part l l.length) (i + 1) with
      | .ok c j => .ok (.mk 1 c 0 0 []) j
      | .bad j => .bad j := by
  rw [step]
  simp only [is_eq, h]
  rcases cond l (part l l.length) (i + 1) with ⟨c, j⟩ | j <;> rfl
theorem step_if {l : List B} {n i : Nat} (h : tk l i = W wIf) : step l (n + 1) i = choice l (cond l (part l l.length)) (step l n) (i + 1) := by
  rw [step]
  simp only [is_eq, h]
  rfl
theorem step_own {l : List B} {n : Nat} {p : Po.T} (hf : Po.fits p = true) (hk : ¬(p.k = 3 ∨ p.k = 4)) (hl : ∀ x ∈ p.l, ∀ i R, cP R → l.drop i = innP x.k (wp x) ++ R → step l n i = .ok x (i + (innP x.k (wp x)).length)) {i : Nat} {R : List B} (hR : cP R) (hd : l.drop i = wp p ++ R) : step l (n + 1) i = .ok p (i + (wp p).length) := by
  obtain ⟨k, c, f, v, xs⟩ := p
  obtain ⟨hsh, _⟩ := Po.fits_iff.1 hf
  rw [wp] at hd ⊢
  rcases hsh with ⟨rfl, hr, ⟨rfl, rfl⟩, hx⟩ | ⟨rfl, rfl, hf2, hv, hx⟩ | ⟨h3, _⟩ | ⟨rfl, hr, ⟨rfl, rfl⟩, hx⟩
  · obtain rfl := List.length_eq_zero_iff.1 hx
    rw [if_pos rfl] at hd ⊢
    have hff := right_fits hr
    unfold filW at hd ⊢
    by_cases h1 : c.k = 1
    · rw [if_pos h1] at hd ⊢
      obtain ⟨h2, _, _⟩ := tk_of hd
      have hc : c = .mk 1 0 0 [] := by
        obtain ⟨k, f, v, ys⟩ := c
        obtain rfl : k = 1 := h1
        obtain ⟨hs, _⟩ := Pd.fits_mk hff
        have : f = 0 ∧ v = 0 ∧ ys.length = 0 := by omega
        obtain ⟨rfl, rfl, h0⟩ := this
        rw [List.length_eq_zero_iff.1 h0]
      rw [step, is_eq, is_eq, h2, if_neg (by decide), if_pos (by decide), hc]
      rfl
    · rw [if_neg h1] at hd ⊢
      by_cases h3 : c.k = 2
      · rw [if_pos h3] at hd ⊢
        obtain ⟨h2, _, _⟩ := tk_of hd
        have hc : c = .mk 2 0 0 [] := by
          obtain ⟨k, f, v, ys⟩ := c
          obtain rfl : k = 2 := h3
          obtain ⟨hs, _⟩ := Pd.fits_mk hff
          have : f = 0 ∧ v = 0 ∧ ys.length = 0 := by omega
          obtain ⟨rfl, rfl, h0⟩ := this
          rw [List.length_eq_zero_iff.1 h0]
        rw [step, is_eq, h2, if_pos (by decide), hc]
        rfl
      · rw [if_neg h3] at hd ⊢
        rw [List.cons_append] at hd
        obtain ⟨h2, h4, _⟩ := tk_of hd
        rw [step_when h2, cond_all hr hR h4, List.length_cons]
        dsimp only
        congr 1
        omega
  · obtain rfl := List.length_eq_zero_iff.1 hx
    rw [if_neg (by decide), if_pos rfl] at hd ⊢
    obtain ⟨h2, _, _⟩ := tk_of hd
    rw [step_go h2 (isB_word (by decide)) (isB_word (by decide)) (isB_word (by decide)) (isB_word (by decide)) (isB_word (by decide)), assign_of hf2.1 (by omega) (by decide) (by decide) hd]
    rfl
  · exact (hk h3).elim
  · rw [if_neg (by decide), if_neg (by decide), if_pos rfl] at hd ⊢
    obtain ⟨a, b, rfl⟩ : ∃ a b, xs = [a, b] := by
      match xs, hx with
      | [a, b], _ => exact ⟨a, b, rfl⟩
    have e : jn (sepP 5) (wpL [a, b]) = innP a.k (wp a) ++ (W wElse :: innP b.k (wp b)) := by
      simp [wpL, jn, sepP]
    rw [e] at hd ⊢
    rw [List.append_assoc, List.cons_append, List.append_assoc, List.singleton_append, List.append_assoc, List.cons_append] at hd
    obtain ⟨h1, h2, _⟩ := tk_of hd
    have hc := cond_all hr (cP_of (b := W wThen) (by decide) (by decide)) h2
    obtain ⟨h3, h4, _⟩ := tk_of (drop_add h2)
    have ha := hl a (show a ∈ [a, b] by simp) _ _ (cP_of (b := W wElse) (by decide) (by decide)) h4
    obtain ⟨h5, h6, _⟩ := tk_of (drop_add h4)
    have hb := hl b (show b ∈ [a, b] by simp) _ _ hR h6
    rw [step_if h1]
    unfold choice
    rw [hc]
    dsimp only
    rw [is_eq, h3, if_pos (by decide), ha]
    dsimp only
    rw [is_eq, h5, if_pos (by decide), hb]
    dsimp only
    congr 1
    simp only [List.length_append, List.length_cons, List.length_nil]
    omega
theorem rows_own {l : List B} {st : Nat → R Po.T} {p : Po.T} (hf : Po.fits p = true) (hp : ¬(p.k = 3 ∨ p.k = 4) → ∀ i R, cP R → l.drop i = wp p ++ R → st i = .ok p (i + (wp p).length)) (hl : ∀ x ∈ p.l, ∀ i R, cP R → l.drop i = innP x.k (wp x) ++ R → st i = .ok x (i + (innP x.k (wp x)).length)) {i : Nat} {R : List B} (hR : pP R) (hd : l.drop i = wp p ++ R) : rows l st i = .ok p (i + (wp p).length) := by
  obtain ⟨k, c, f, v, xs⟩ := p
  obtain ⟨hsh, _⟩ := Po.fits_iff.1 hf
  by_cases hk : k = 3 ∨ k = 4
  · have hf0 : c = Po.noneP ∧ f = 0 ∧ v = 0 ∧ 2 ≤ xs.length := by
      rcases hsh with ⟨rfl, _⟩ | ⟨rfl, _⟩ | ⟨_, h1, h2, h3, _⟩ | ⟨rfl, _⟩
      · omega
      · omega
      · exact ⟨h1, h2.1, h2.2, h3⟩
      · omega
    obtain ⟨rfl, rfl, rfl, h2⟩ := hf0
    have hxs : xs ≠ [] := by rintro rfl; simp at h2
    have hw : wp (.mk k Po.noneP 0 0 xs) = jn (sepP k) (xs.map fun p => innP p.k (wp p)) := by
      rw [wp, if_neg (by omega), if_neg (by omega), if_neg (by omega), List.nil_append, wpL_map]
    rw [hw] at hd ⊢
    rcases hk with rfl | rfl
    · rw [show sepP 3 = [S wSemi] from rfl] at hd ⊢
      have hc := chain_of (l := l) (s := wSemi) (sep := S wSemi) (by decide) (one := st) (P := cP) (fun M => cP_of (by decide) (by decide)) hR.1 hR.2.1 hxs (fun x hx i R' h1 h2 => hl x hx i R' h1 h2) hd
      have hg : row l st i = .ok (.mk 3 Po.noneP 0 0 xs) (i + (jn [S wSemi] (xs.map fun p => innP p.k (wp p))).length) := by
        unfold row
        rw [hc, wrap_many h2]
        rfl
      exact chain_one hR.2.2 hg hd _
    · rw [show sepP 4 = [S wBar] from rfl] at hd ⊢
      have hgo : ∀ x ∈ xs, ∀ i R', rP R' → l.drop i = innP x.k (wp x) ++ R' → row l st i = .ok x (i + (innP x.k (wp x)).length) := fun x hx i R' h1 h2 => chain_one h1.2 (hl x hx i R' h1.1 h2) h2 _
      have hc := chain_of (l := l) (s := wBar) (sep := S wBar) (by decide) (one := row l st) (P := rP) (fun M => ⟨cP_of (by decide) (by decide), ⟨_, _, rfl, by decide⟩⟩) ⟨hR.1, hR.2.1⟩ hR.2.2 hxs hgo hd
      unfold rows
      rw [hc, wrap_many h2]
      rfl
  · have h1 := hp hk i R hR.1 hd
    exact chain_one hR.2.2 (chain_one hR.2.1 h1 hd _) hd _
theorem step_of {l : List B} : ∀ (n : Nat) (p : Po.T), ms p ≤ n → Po.fits p = true → ∀ i R, cP R → l.drop i = innP p.k (wp p) ++ R → step l n i = .ok p (i + (innP p.k (wp p)).length)
  | 0, p, hn, _, _, _, _, _ => absurd (ms_pos p) (by omega)
  | n + 1, ⟨k, c, f, v, xs⟩, hn, hf, i, R, hR, hd => by
    obtain ⟨hsh, hfx⟩ := Po.fits_iff.1 hf
    rw [ms] at hn
    have hsz : ∀ x ∈ xs, ms x ≤ n := fun x hx => by
      have := msL_mem hx
      split at hn <;> omega
    have ih : ∀ x ∈ xs, ∀ i R, cP R → l.drop i = innP x.k (wp x) ++ R → step l n i = .ok x (i + (innP x.k (wp x)).length) := fun x hx i R h1 h2 => step_of n x (hsz x hx) (hfx x hx) i R h1 h2
    by_cases hk : k = 1 ∨ k = 2
    · have he : innP (Po.T.mk k c f v xs).k (wp (.mk k c f v xs)) = wp (.mk k c f v xs) := if_pos hk
      rw [he] at hd ⊢
      exact step_own hf (by show ¬(k = 3 ∨ k = 4); omega) ih hR hd
    · have he : innP (Po.T.mk k c f v xs).k (wp (.mk k c f v xs)) = S wOpen :: (wp (.mk k c f v xs) ++ [S wShut]) := if_neg hk
      rw [he] at hd ⊢
      rw [List.cons_append, List.append_assoc] at hd
      obtain ⟨h1, h2, _⟩ := tk_of hd
      have hc := rows_own (l := l) (st := step l n) hf (fun h3 i R h4 h5 => by
        have h5' : k = 5 := by
          have h3' : ¬(k = 3 ∨ k = 4) := h3
          rcases hsh with ⟨rfl, _⟩ | ⟨rfl, _⟩ | ⟨h, _⟩ | ⟨rfl, _⟩ <;> omega
        subst h5'
        rw [if_pos rfl] at hn
        obtain ⟨m, rfl⟩ : ∃ m, n = m + 1 := ⟨n - 1, by omega⟩
        exact step_own hf h3 (fun x hx i R h6 h7 => step_of m x (by have := msL_mem (show x ∈ xs from hx); omega) (hfx x hx) i R h6 h7) h4 h5) ih (R := [S wShut] ++ R) ⟨cP_of (by decide) (by decide), ⟨_, _, rfl, by decide⟩, ⟨_, _, rfl, by decide⟩⟩ h2
      obtain ⟨h3, _, _⟩ := tk_of (drop_add h2)
      rw [step_open h1, hc]
      unfold shut
      dsimp only
      rw [is_eq, h3, if_pos (by decide), List.length_cons, List.length_append, List.length_singleton]
      congr 1
      omega
theorem rows_of {l : List B} {n : Nat} {p : Po.T} (hn : ms p ≤ n) (hf : Po.fits p = true) {i : Nat} {R : List B} (hR : pP R) (hd : l.drop i = wp p ++ R) : rows l (step l n) i = .ok p (i + (wp p).length) := by
  obtain ⟨k, c, f, v, xs⟩ := p
  have hfx := (Po.fits_iff.1 hf).2
  have hm := hn
  rw [ms] at hm
  have hsz : ∀ x ∈ xs, ms x ≤ n - 1 := fun x hx => by
    have := msL_mem hx
    split at hm <;> omega
  obtain ⟨n, rfl⟩ : ∃ m, n = m + 1 := ⟨n - 1, by split at hm <;> omega⟩
  refine rows_own hf (fun hk i R h1 h2 => step_own hf hk (fun x hx i R h3 h4 => step_of n x (by have := hsz x hx; omega) (hfx x hx) i R h3 h4) h1 h2) (fun x hx i R h1 h2 => step_of (n + 1) x (by have := hsz x hx; omega) (hfx x hx) i R h1 h2) hR hd
theorem whole_pol {x : Po.T} (hf : Po.fits x = true) (n : Nat) (hn : (wp x).length ≤ n) (e : B) (he : e.k = 4) : whole (wp x ++ [e]) (rows (wp x ++ [e]) (step (wp x ++ [e]) n) 0) = .ok x 0 := by
  have hb : ∀ s, isB e s = false := fun s => by unfold isB; rw [he]; rfl
  have h := rows_of (l := wp x ++ [e]) (n := n) (i := 0) (R := [e]) (Nat.le_trans (wp_len _ x (Nat.le_refl _) hf) hn) hf ⟨⟨⟨_, _, rfl, hb _⟩, ⟨_, _, rfl, hb _⟩⟩, ⟨_, _, rfl, hb _⟩, ⟨_, _, rfl, hb _⟩⟩ rfl
  rw [h]
  unfold whole
  dsimp only
  have hk : tk (wp x ++ [e]) (0 + (wp x).length) = e := by
    unfold tk
    rw [Nat.zero_add, List.getElem?_append_right (Nat.le_refl _), Nat.sub_self]
    rfl
  rw [hk, if_pos he]
end Ps
end Go.Proofs.YtaojbkphcnailaaDoor
namespace Go.Proofs.YtaojbkphcnailaaDoor
open Go.Sx
set_option maxRecDepth 20000
set_option linter.unusedVariables false
namespace Ps
open Lx (B)
theorem innW_le (k : Int) (s : List B) : (innW k s).length ≤ s.length + 2 := by
  unfold innW
  split
  · simp
  · omega
theorem innP_le (k : Int) (s : List B) : (innP k s).length ≤ s.length + 2 := by
  unfold innP
  split
  · omega
  · simp
theorem jn_le (w : B) : ∀ ls : List (List B), (jn [w] ls).length + 1 ≤ (ls.map fun l => l.length + 1).sum + 1
  | [] => by simp [jn]
  | [x] => by simp [jn]
  | x :: y :: r => by
    have h := jn_le w (y :: r)
    simp only [jn, List.length_append, List.map_cons, List.flatten_cons, List.length_cons, List.length_nil, List.sum_cons] at *
    omega
theorem sum_le {α : Type} {f g : α → Nat} : ∀ l : List α, (∀ x ∈ l, f x ≤ g x) → (l.map f).sum ≤ (l.map g).sum := fun l h => sum_ge l h
theorem sum_mul {α : Type} (f : α → Nat) : ∀ l : List α, (l.map fun x => 6 * f x).sum = 6 * (l.map f).sum
  | [] => rfl
  | x :: l => by
    have := sum_mul f l
    simp only [List.map_cons, List.sum_cons, this]
    omega
theorem ws_few : ∀ (n : Nat) (p : Pd.T), Pd.size p ≤ n → Pd.fits p = true → (ws p).length + 3 ≤ 6 * Pd.size p
  | 0, p, hn, _ => absurd (Pd.size_pos p) (by omega)
  | n + 1, ⟨k, f, v, xs⟩, hn, hf => by
    obtain ⟨hsh, hfx⟩ := Pd.fits_mk hf
    have hsz : ∀ x ∈ xs, Pd.size x ≤ n := fun x hx => by have := Pd.size_lt (k := k) (f := f) (v := v) hx; omega
    have ih := sum_le (f := fun p => (innW p.k (ws p)).length + 1) (g := fun p => 6 * Pd.size p) xs fun x hx => by
      have h1 := ws_few n x (hsz x hx) (hfx x hx)
      have h2 := innW_le x.k (ws x)
      omega
    rw [sum_mul] at ih
    have e : (xs.map fun p => (innW p.k (ws p)).length + 1).sum = ((wsL xs).map fun l => l.length + 1).sum := by rw [wsL_map, List.map_map]; rfl
    rw [Pd.size, ws, sizeL_sum]
    rw [e] at ih
    rcases hsh with ⟨rfl, hf3, hv, hx⟩ | ⟨rfl | rfl, rfl, rfl, hx⟩ | ⟨rfl, rfl, rfl, hx⟩ | ⟨hk, _, _, h2, _⟩
    · rw [if_neg (by decide), if_neg (by decide), if_pos rfl]
      simp only [List.length_cons, List.length_nil]
      omega
    · rw [if_pos rfl]
      simp only [List.length_cons, List.length_nil]
      omega
    · rw [if_neg (by decide), if_pos rfl]
      simp only [List.length_cons, List.length_nil]
      omega
    · obtain ⟨x, rfl⟩ := List.length_eq_one_iff.1 hx
      rw [if_neg (by decide), if_neg (by decide), if_neg (by decide), if_pos rfl]
      simp only [wsL, jn, List.map_cons, List.map_nil, List.sum_cons, List.sum_nil, List.flatten_nil, List.append_nil, List.length_cons] at *
      omega
    · rw [if_neg (by omega), if_neg (by omega), if_neg (by omega), if_neg (by omega)]
      obtain ⟨w, hw⟩ : ∃ w, sepW k = [w] := by unfold sepW; split <;> exact ⟨_, rfl⟩
      rw [hw]
      have := jn_le w (wsL xs)
      omega
theorem filW_le {p : Pd.T} (h : Pd.fits p = true) : (filW p).length + 3 ≤ 6 * (1 + Pd.size p) := by
  have := ws_few _ p (Nat.le_refl _) h
  have := Pd.size_pos p
  unfold filW
  repeat' split
  all_goals simp only [List.length_cons, List.length_nil]; omega
theorem sizeP_sum (l : List Po.T) : Po.sizeL l = (l.map Po.size).sum := by
  induction l with
  | nil => rfl
  | cons x l ih => rw [Po.sizeL, ih]; rfl
theorem sizeP_mem : ∀ {l : List Po.T} {x : Po.T}, x ∈ l → Po.size x ≤ Po.sizeL l
  | y :: l, x, h => by
    rw [Po.sizeL]
    rcases List.mem_cons.1 h with rfl | h
    · omega
    · have := sizeP_mem h; omega
theorem sizeP_pos : ∀ x : Po.T, 1 ≤ Po.size x
  | .mk k p f v l => by rw [Po.size]; omega
theorem wp_few : ∀ (n : Nat) (p : Po.T), Po.size p ≤ n → Po.fits p = true → (wp p).length + 3 ≤ 6 * Po.size p
  | 0, p, hn, _ => absurd (sizeP_pos p) (by omega)
  | n + 1, ⟨k, c, f, v, xs⟩, hn, hf => by
    obtain ⟨hsh, hfx⟩ := Po.fits_iff.1 hf
    rw [Po.size] at hn
    have hsz : ∀ x ∈ xs, Po.size x ≤ n := fun x hx => by
      have := sizeP_mem hx
      omega
    have ih := sum_le (f := fun p => (innP p.k (wp p)).length + 1) (g := fun p => 6 * Po.size p) xs fun x hx => by
      have h1 := wp_few n x (hsz x hx) (hfx x hx)
      have h2 := innP_le x.k (wp x)
      omega
    rw [sum_mul] at ih
    have e : (xs.map fun p => (innP p.k (wp p)).length + 1).sum = ((wpL xs).map fun l => l.length + 1).sum := by rw [wpL_map, List.map_map]; rfl
    rw [Po.size, wp, sizeP_sum]
    rw [e] at ih
    rcases hsh with ⟨rfl, hr, _, hx⟩ | ⟨rfl, _, hf2, hv, hx⟩ | ⟨hk, _, _, hl1, hl2⟩ | ⟨rfl, hr, _, hx⟩
    · rw [if_pos rfl, if_neg (by decide)]
      have := filW_le (right_fits hr)
      omega
    · rw [if_neg (by decide), if_pos rfl]
      simp only [List.length_cons, List.length_nil]
      omega
    · rw [if_neg (by omega), if_neg (by omega), if_neg (by omega), List.nil_append]
      obtain ⟨w, hw⟩ : ∃ w, sepP k = [w] := by unfold sepP; repeat' split
                                               all_goals exact ⟨_, rfl⟩
      rw [hw]
      have := jn_le w (wpL xs)
      omega
    · rw [if_neg (by decide), if_neg (by decide), if_pos rfl, if_neg (by decide), List.length_append]
      have e5 : sepP 5 = [W wElse] := rfl
      rw [e5]
      have := jn_le (W wElse) (wpL xs)
      have := ws_few _ c (Nat.le_refl _) (right_fits hr)
      simp only [List.length_cons, List.length_append, List.length_nil]
      omega
theorem right_few {x : Po.T} (h : Po.right x = true) : (wp x).length ≤ 500 := by
  have hf := Po.right_fits' h
  unfold Po.right at h
  simp only [Bool.and_eq_true, decide_eq_true_eq] at h
  have := wp_few _ x (Nat.le_refl _) hf
  omega
theorem toks_of {t : List UInt8} {ls : List B} (h : bs t = some ls) : ∃ L, Lx.toks t = some L ∧ L.map (·.1) = ls := by
  unfold bs at h
  cases ht : Lx.toks t with
  | none => rw [ht] at h; cases h
  | some L =>
    rw [ht] at h
    injection h with h
    exact ⟨L, rfl, h⟩
end Ps
end Go.Proofs.YtaojbkphcnailaaDoor
