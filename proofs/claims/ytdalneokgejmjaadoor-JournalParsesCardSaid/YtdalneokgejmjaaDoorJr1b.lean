/-
  Journals that can be: each update was begun once, and was committed, or closed, once at the most.
-/
import Derived.Test.YtdalneokgejmjaaDoorJr1
namespace Go.Proofs.YtdalneokgejmjaaDoor
open Go.Sx
namespace Jr
theorem count_next (l : List Rec) (r : Rec) (u k : Int) : count (l ++ [r]) u k = count l u k + (if r.u = u ∧ r.k = k then 1 else 0) := by
  unfold count
  rw [List.filter_append, List.length_append]
  by_cases h : r.u = u ∧ r.k = k
  · rw [if_pos h]; simp [h]
  · rw [if_neg h]; simp [h]
structure Inv (s : St) (l : List Rec) : Prop where
  lo : 0 ≤ s.u
  hi : s.u ≤ l.length
  z : s.u = 0 → s.op = false ∧ s.out = 0
  off : ∀ u, u < 1 ∨ s.u < u → ∀ k, count l u k = 0
  on : ∀ u, 1 ≤ u ∧ u ≤ s.u → count l u 1 = 1 ∧ count l u 3 ≤ 1 ∧ count l u 4 ≤ 1
  past : ∀ u, 1 ≤ u ∧ u ≤ s.u → (u ≠ s.u ∨ s.op = false) → count l u 5 + count l u 6 = 1
  now : s.op = true → count l s.u 5 + count l s.u 6 = 0 ∧ (s.sure = false → count l s.u 3 = 0) ∧ (s.canc = false → count l s.u 4 = 0)
theorem inv_zero : Inv zero [] := ⟨Int.le_refl _, Int.le_refl _, fun _ => ⟨rfl, rfl⟩, fun _ _ _ => rfl, fun u h => by have : zero.u = 0 := rfl; omega, fun u h => by have : zero.u = 0 := rfl; omega, fun h => by cases h⟩
theorem inv_next {s t : St} {r : Rec} {l : List Rec} (h : Inv s l) (hl : l.length ≤ 1000) (hn : next s r = some t) : Inv t (l ++ [r]) := by
  have hlen : (l ++ [r]).length = l.length + 1 := by simp
  have hlo := h.lo
  have hhi := h.hi
  unfold next at hn
  split at hn
  · rename_i k1
    split at hn
    · rename_i hb
      injection hn with hn
      obtain ⟨h1, h2, h3, _⟩ := hb
      have hu : r.u = s.u + 1 := by rw [h3, wrap_i64 (by omega) (by omega)]
      subst hn
      refine ⟨by dsimp only; omega, by rw [hlen]; dsimp only; omega, fun e => by dsimp only at e; omega, fun u hu2 k => ?_, fun u hu2 => ?_, fun u hu2 hu3 => ?_, fun _ => ?_⟩
      · dsimp only at hu2
        rw [count_next, h.off u (by omega) k, if_neg (fun e => by omega)]
      · dsimp only at hu2
        rw [count_next, count_next, count_next, if_neg (c := _ ∧ r.k = 3) (fun e => by omega), if_neg (c := _ ∧ r.k = 4) (fun e => by omega)]
        by_cases e : u = s.u + 1
        · rw [h.off u (by omega), h.off u (by omega), h.off u (by omega), if_pos ⟨by omega, k1⟩]
          omega
        · have := h.on u (by omega)
          rw [if_neg (fun e => by omega)]
          omega
      · dsimp only at hu2 hu3
        have hu4 : u ≠ r.u := hu3.resolve_right (by decide)
        have := h.past u (by omega) (by
          by_cases e : u = s.u
          · exact .inr h1
          · exact .inl e)
        rw [count_next, count_next, if_neg (fun e => by omega), if_neg (fun e => by omega)]
        omega
      · dsimp only
        rw [count_next, count_next, count_next, count_next, h.off r.u (by omega), h.off r.u (by omega), h.off r.u (by omega), h.off r.u (by omega)]
        rw [if_neg (fun e => by omega), if_neg (fun e => by omega), if_neg (fun e => by omega), if_neg (fun e => by omega)]
        exact ⟨rfl, fun _ => rfl, fun _ => rfl⟩
    · cases hn
  rename_i k1
  split at hn
  · cases hn
  rename_i ku
  have ku : r.u = s.u := by
    by_cases e : r.u = s.u
    · exact e
    · exact (ku e).elim
  split at hn
  · rename_i k7
    split at hn
    · rename_i hb
      injection hn with hn
      obtain ⟨h1, h2, h3, h4⟩ := hb
      have hpos : 1 ≤ s.u := by
        by_cases e : s.u = 0
        · exfalso
          have := (h.z e).2
          unfold isOut at h4
          rw [this] at h4
          simp at h4
        · omega
      subst hn
      refine ⟨hlo, by rw [hlen]; dsimp only; omega, fun e => by dsimp only at e; omega, fun u hu2 k => ?_, fun u hu2 => ?_, fun u hu2 hu3 => ?_, fun e => ?_⟩
      · dsimp only at hu2
        rw [count_next, h.off u hu2 k, if_neg (fun e => by omega)]
      · dsimp only at hu2
        have := h.on u hu2
        rw [count_next, count_next, count_next, if_neg (fun e => by omega), if_neg (fun e => by omega), if_neg (fun e => by omega)]
        omega
      · dsimp only at hu2
        have := h.past u hu2 (by
          by_cases e : u = s.u
          · exact .inr h1
          · exact .inl e)
        rw [count_next, count_next, if_neg (fun e => by omega), if_neg (fun e => by omega)]
        omega
      · dsimp only at e
        rw [h1] at e
        cases e
    · cases hn
  rename_i k7
  split at hn
  · rename_i hb
    obtain ⟨hop, hrb, hra⟩ := hb
    have hpos : 1 ≤ s.u := by
      by_cases e : s.u = 0
      · have := (h.z e).1
        rw [hop] at this
        cases this
      · omega
    obtain ⟨n1, n2, n3⟩ := h.now hop
    have hoff : ∀ u, u < 1 ∨ s.u < u → ∀ k, count (l ++ [r]) u k = 0 := fun u hu2 k => by
      rw [count_next, h.off u hu2 k, if_neg (fun e => by omega)]
    have hother : ∀ u k, u ≠ s.u → count (l ++ [r]) u k = count l u k := fun u k hu2 => by
      rw [count_next, if_neg (fun e => by omega)]; rfl
    have hself : ∀ k, r.k ≠ k → count (l ++ [r]) s.u k = count l s.u k := fun k hk => by
      rw [count_next, if_neg (fun e => hk e.2)]; rfl
    have hkind : count (l ++ [r]) s.u r.k = count l s.u r.k + 1 := by
      rw [count_next, if_pos ⟨ku, rfl⟩]
    have hon := h.on s.u ⟨hpos, Int.le_refl _⟩
    have hpast : ∀ u, 1 ≤ u ∧ u ≤ s.u → u ≠ s.u → count (l ++ [r]) u 5 + count (l ++ [r]) u 6 = 1 := fun u hu2 e => by
      rw [hother u 5 e, hother u 6 e]
      exact h.past u hu2 (.inl e)
    have honU : count (l ++ [r]) s.u 1 = 1 ∧ count (l ++ [r]) s.u 3 ≤ 1 ∧ count (l ++ [r]) s.u 4 ≤ 1 → ∀ u, 1 ≤ u ∧ u ≤ s.u → count (l ++ [r]) u 1 = 1 ∧ count (l ++ [r]) u 3 ≤ 1 ∧ count (l ++ [r]) u 4 ≤ 1 := fun hh u hu2 => by
      by_cases e : u = s.u
      · rw [e]; exact hh
      · rw [hother u 1 e, hother u 3 e, hother u 4 e]
        exact h.on u hu2
    have h1k := hself 1 k1
    unfold openK at hn
    split at hn
    · rename_i k2
      split at hn
      · rename_i hc
        injection hn with hn
        subst hn
        have a3 := hself 3 (by omega)
        have a4 := hself 4 (by omega)
        have a5 := hself 5 (by omega)
        have a6 := hself 6 (by omega)
        exact ⟨hlo, by rw [hlen]; dsimp only; omega, fun e => by dsimp only at e; omega, hoff, honU (by omega), fun u hu2 hu3 => hpast u hu2 (hu3.resolve_right (fun e => by dsimp only at e; rw [hop] at e; cases e)), fun _ => ⟨by dsimp only; omega, fun e => by dsimp only at e ⊢; have := n2 e; omega, fun e => by dsimp only at e ⊢; have := n3 e; omega⟩⟩
      · cases hn
    split at hn
    · rename_i k3
      split at hn
      · rename_i hc
        injection hn with hn
        subst hn
        have a3 : count (l ++ [r]) s.u 3 = count l s.u 3 + 1 := by rw [← k3]; exact hkind
        have a4 := hself 4 (by omega)
        have a5 := hself 5 (by omega)
        have a6 := hself 6 (by omega)
        have z3 := n2 hc.1
        exact ⟨hlo, by rw [hlen]; dsimp only; omega, fun e => by dsimp only at e; omega, hoff, honU (by omega), fun u hu2 hu3 => hpast u hu2 (hu3.resolve_right (fun e => by dsimp only at e; rw [hop] at e; cases e)), fun _ => ⟨by dsimp only; omega, fun e => (by cases e), fun e => by dsimp only at e ⊢; have := n3 e; omega⟩⟩
      · cases hn
    split at hn
    · rename_i k4
      split at hn
      · rename_i hc
        injection hn with hn
        subst hn
        have a4 : count (l ++ [r]) s.u 4 = count l s.u 4 + 1 := by rw [← k4]; exact hkind
        have a3 := hself 3 (by omega)
        have a5 := hself 5 (by omega)
        have a6 := hself 6 (by omega)
        have z4 := n3 hc
        exact ⟨hlo, by rw [hlen]; dsimp only; omega, fun e => by dsimp only at e; omega, hoff, honU (by omega), fun u hu2 hu3 => hpast u hu2 (hu3.resolve_right (fun e => by dsimp only at e; rw [hop] at e; cases e)), fun _ => ⟨by dsimp only; omega, fun e => by dsimp only at e ⊢; have := n2 e; omega, fun e => (by cases e)⟩⟩
      · cases hn
    split at hn
    · rename_i k5
      split at hn
      · rename_i hc
        injection hn with hn
        subst hn
        have a5 : count (l ++ [r]) s.u 5 = count l s.u 5 + 1 := by rw [← k5]; exact hkind
        have a3 := hself 3 (by omega)
        have a4 := hself 4 (by omega)
        have a6 := hself 6 (by omega)
        refine ⟨hlo, by rw [hlen]; simp only [closed]; omega, fun e => by simp only [closed] at e; omega, hoff, honU (by omega), fun u hu2 hu3 => ?_, fun e => (by cases e)⟩
        by_cases e : u = s.u
        · rw [e]; omega
        · exact hpast u hu2 e
      · cases hn
    split at hn
    · rename_i k6
      split at hn
      · rename_i hc
        injection hn with hn
        subst hn
        have a6 : count (l ++ [r]) s.u 6 = count l s.u 6 + 1 := by rw [← k6]; exact hkind
        have a3 := hself 3 (by omega)
        have a4 := hself 4 (by omega)
        have a5 := hself 5 (by omega)
        refine ⟨hlo, by rw [hlen]; simp only [closed]; omega, fun e => by simp only [closed] at e; omega, hoff, honU (by omega), fun u hu2 hu3 => ?_, fun e => (by cases e)⟩
        by_cases e : u = s.u
        · rw [e]; omega
        · exact hpast u hu2 e
      · cases hn
    · cases hn
  · cases hn
theorem inv_replay : ∀ (l p : List Rec) (s : St) (n : Nat), Inv s p → p.length + l.length ≤ 1000 → (replay s n l).2.2 = true → Inv (replay s n l).1 (p ++ l) ∧ (replay s n l).2.1 = n + l.length
  | [], p, s, n, h, _, _ => by rw [List.append_nil]; exact ⟨h, rfl⟩
  | r :: l, p, s, n, h, hl, ht => by
    unfold replay at ht ⊢
    split at ht
    · rename_i t hn
      have h1 := inv_next h (by simp at hl; omega) hn
      have h2 := inv_replay l (p ++ [r]) t (n + 1) h1 (by simp at hl ⊢; omega) ht
      rw [List.append_assoc] at h2
      refine ⟨h2.1, ?_⟩
      rw [h2.2]; simp; omega
    · cases ht
/-- A beginning can be, too. -/
theorem replay_take : ∀ (l : List Rec) (s : St) (n c : Nat), c ≤ l.length → (replay s n l).2.2 = true → (replay s n (l.take c)).2 = (n + c, true)
  | _, s, n, 0, _, _ => by simp [replay]
  | [], s, n, c + 1, h, _ => by simp at h
  | r :: l, s, n, c + 1, h, ht => by
    rw [List.take_succ_cons]
    unfold replay at ht ⊢
    split at ht
    · rename_i t hn
      rw [replay_take l t (n + 1) c (by simpa using h) ht]
      simp; omega
    · cases ht
theorem fate_once {s : St} {l : List Rec} (h : Inv s l) (u : Int) : (fate l u ≠ 1 ∨ (s.op = true ∧ s.u = u)) ∧ (fate l u ≠ 0 ∨ u < 1 ∨ s.u < u) ∧ count l u 1 ≤ 1 ∧ count l u 5 + count l u 6 ≤ count l u 1 ∧ count l u 3 ≤ 1 ∧ count l u 4 ≤ 1 := by
  by_cases hu : 1 ≤ u ∧ u ≤ s.u
  · obtain ⟨h1, h3, h4⟩ := h.on u hu
    unfold fate
    rw [if_neg (by omega)]
    by_cases hp : u ≠ s.u ∨ s.op = false
    · have h56 := h.past u hu hp
      refine ⟨.inl ?_, .inl ?_, by omega, by omega, h3, h4⟩
      · split
        · decide
        · split
          · decide
          · omega
      · split
        · decide
        · split
          · decide
          · decide
    · have hus : u = s.u := by
        by_cases e : u = s.u
        · exact e
        · exact (hp (.inl e)).elim
      have hop : s.op = true := by
        cases ho : s.op with
        | true => rfl
        | false => exact (hp (.inr ho)).elim
      have h56 := (h.now hop).1
      rw [← hus] at h56
      refine ⟨.inr ⟨hop, hus.symm⟩, .inl ?_, by omega, by omega, h3, h4⟩
      split
      · decide
      · split
        · decide
        · decide
  · have h0 := h.off u (by omega)
    unfold fate
    rw [if_pos (h0 1), h0 1, h0 3, h0 4, h0 5, h0 6]
    exact ⟨.inl (by decide), .inr (by omega), by omega, by omega, by omega, by omega⟩
end Jr
end Go.Proofs.YtdalneokgejmjaaDoor
