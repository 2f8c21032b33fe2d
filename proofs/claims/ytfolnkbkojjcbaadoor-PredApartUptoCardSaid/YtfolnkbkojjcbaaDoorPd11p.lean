/-
  Conditions: what they are pushed to; the numbers with which a field is asked. Plain.
-/
import Derived.Test.YtfolnkbkojjcbaaDoorPd1p
namespace Go.Proofs.YtfolnkbkojjcbaaDoor
open Go.Sx
set_option maxRecDepth 20000
set_option linter.unusedVariables false
namespace Pd
mutual
def push : T → Bool → T
  | .mk k f v l, nt => if k = 4 then push1 (.mk k f v l) l (!nt) else if k = 1 ∨ k = 2 then (if nt then .mk (3 - k) 0 0 [] else .mk k f v l)
    else if k = 5 ∨ k = 6 then .mk (if nt then 11 - k else k) 0 0 (pushL l nt) else (if nt then .mk 4 0 0 [.mk k f v l] else .mk k f v l)
def push1 (d : T) : List T → Bool → T
  | [], _ => d
  | p :: _, nt => push p nt
def pushL : List T → Bool → List T
  | [], _ => []
  | p :: l, nt => push p nt :: pushL l nt
end
theorem push_4 (f v : Int) (q : T) (l : List T) (nt : Bool) : push (.mk 4 f v (q :: l)) nt = push q (!nt) := by rw [push.eq_def]; simp [push1]
theorem push_12 (k f v : Int) (l : List T) (h : k = 1 ∨ k = 2) (nt : Bool) : push (.mk k f v l) nt = if nt then .mk (3 - k) 0 0 [] else .mk k f v l := by
  rw [push.eq_def]; simp only; rw [if_neg (by omega), if_pos h]
theorem push_56 (k f v : Int) (l : List T) (h : k = 5 ∨ k = 6) (nt : Bool) : push (.mk k f v l) nt = .mk (if nt then 11 - k else k) 0 0 (pushL l nt) := by
  rw [push.eq_def]; simp only; rw [if_neg (by omega), if_neg (by omega), if_pos h]
theorem push_no (k f v : Int) (l : List T) (h : ¬ (k = 1 ∨ k = 2 ∨ k = 4 ∨ k = 5 ∨ k = 6)) (nt : Bool) : push (.mk k f v l) nt = if nt then .mk 4 0 0 [.mk k f v l] else .mk k f v l := by
  rw [push.eq_def]; simp only; rw [if_neg (by omega), if_neg (by omega), if_neg (by omega)]
theorem pushL_map (l : List T) (nt : Bool) : pushL l nt = l.map fun p => push p nt := by
  induction l with
  | nil => rfl
  | cons p l ih => rw [pushL, ih]; rfl
/-! ### Values -/
mutual
def vals (f : Int) : T → List Int
  | .mk k a v l => (if k = 3 ∧ a = f then [v] else []) ++ valsL f l
def valsL (f : Int) : List T → List Int
  | [] => []
  | p :: l => vals f p ++ valsL f l
end
theorem valsL_append (f : Int) (a b : List T) : valsL f (a ++ b) = valsL f a ++ valsL f b := by
  induction a with
  | nil => rfl
  | cons p a ih => rw [List.cons_append, valsL, valsL, ih, List.append_assoc]
theorem valsL_take (f : Int) {l : List T} {k : Nat} (h : k < l.length) : valsL f (l.take (k + 1)) = valsL f (l.take k) ++ vals f l[k] := by
  rw [List.take_add_one, List.getElem?_eq_getElem h, valsL_append]
  congr 1
  show vals f l[k] ++ [] = _
  simp
mutual
theorem vals_len (f : Int) : ∀ p : T, (vals f p).length ≤ size p
  | .mk k a v l => by
    have := valsL_len f l
    rw [vals, size, List.length_append]
    split
    · simp; omega
    · simp; omega
theorem valsL_len (f : Int) : ∀ l : List T, (valsL f l).length ≤ sizeL l
  | [] => by simp [valsL]
  | p :: l => by have := vals_len f p; have := valsL_len f l; rw [valsL, sizeL, List.length_append]; omega
end
mutual
/-- What fits is asked with numbers that a field may have. -/
theorem vals_top (f : Int) : ∀ p : T, fits p = true → ∀ v ∈ vals f p, 0 ≤ v ∧ v ≤ top f
  | .mk k a w l, h, v, hv => by
    rw [fits, Bool.and_eq_true] at h
    rw [vals, List.mem_append] at hv
    rcases hv with hv | hv
    · split at hv
      · rename_i hk
        obtain ⟨rfl, rfl⟩ := hk
        have h1 := h.1
        unfold shape at h1
        rw [decide_eq_true_eq] at h1
        rw [List.mem_singleton.1 hv]
        omega
      · simp at hv
    · exact valsL_top f l h.2 v hv
theorem valsL_top (f : Int) : ∀ l : List T, fitsL l = true → ∀ v ∈ valsL f l, 0 ≤ v ∧ v ≤ top f
  | [], _, v, hv => by simp [valsL] at hv
  | p :: l, h, v, hv => by
    rw [fitsL, Bool.and_eq_true] at h
    rw [valsL, List.mem_append] at hv
    rcases hv with hv | hv
    · exact vals_top f p h.1 v hv
    · exact valsL_top f l h.2 v hv
end
/-- One of each of those that stand beside each other. -/
def once : List Int → List Int
  | [] => []
  | [x] => [x]
  | x :: y :: l => if x = y then once (y :: l) else x :: once (y :: l)
theorem once_mem : ∀ (l : List Int) (v : Int), v ∈ once l ↔ v ∈ l
  | [], v => by simp [once]
  | [x], v => by simp [once]
  | x :: y :: l, v => by
    rw [once]
    split
    · rename_i h
      subst h
      rw [once_mem (x :: l) v]
      simp
    · rw [List.mem_cons, once_mem (y :: l) v, List.mem_cons (b := x)]
theorem once_rising : ∀ l : List Int, l.Pairwise (· ≤ ·) → (once l).Pairwise (· < ·)
  | [], _ => by simp [once]
  | [x], _ => by simp [once]
  | x :: y :: l, h => by
    rw [once]
    have h2 := List.pairwise_cons.1 h
    split
    · exact once_rising (y :: l) h2.2
    · rename_i hne
      refine List.pairwise_cons.2 ⟨fun v hv => ?_, once_rising (y :: l) h2.2⟩
      have hm := (once_mem (y :: l) v).1 hv
      have h3 := List.pairwise_cons.1 h2.2
      have h4 := h2.1 y (by simp)
      rcases List.mem_cons.1 hm with rfl | hm
      · omega
      · have := h3.1 v hm; omega
theorem rising_eq : ∀ a b : List Int, a.Pairwise (· < ·) → b.Pairwise (· < ·) → (∀ v, v ∈ a ↔ v ∈ b) → a = b
  | [], [], _, _, _ => rfl
  | [], y :: b, _, _, h => by have := (h y).2 (by simp); simp at this
  | x :: a, [], _, _, h => by have := (h x).1 (by simp); simp at this
  | x :: a, y :: b, ha, hb, h => by
    have ha' := List.pairwise_cons.1 ha
    have hb' := List.pairwise_cons.1 hb
    have e : x = y := by
      have h1 := (h x).1 (by simp)
      have h2 := (h y).2 (by simp)
      rcases List.mem_cons.1 h1 with h1 | h1
      · exact h1
      · rcases List.mem_cons.1 h2 with h2 | h2
        · exact h2.symm
        · have := ha'.1 y h2; have := hb'.1 x h1; omega
    subst e
    rw [rising_eq a b ha'.2 hb'.2 fun v => ⟨fun hv => ?_, fun hv => ?_⟩]
    · have h1 := (h v).1 (List.mem_cons_of_mem _ hv)
      rcases List.mem_cons.1 h1 with h1 | h1
      · have := ha'.1 v hv; omega
      · exact h1
    · have h1 := (h v).2 (List.mem_cons_of_mem _ hv)
      rcases List.mem_cons.1 h1 with h1 | h1
      · have := hb'.1 v hv; omega
      · exact h1
/-- The values, rising. -/
def values (f : Int) (p : T) : List Int := once ((vals f p).mergeSort fun x y => decide (x ≤ y))
theorem values_mem (f : Int) (p : T) (v : Int) : v ∈ values f p ↔ v ∈ vals f p := by
  unfold values
  rw [once_mem]
  exact List.mem_mergeSort
theorem values_rising (f : Int) (p : T) : (values f p).Pairwise (· < ·) := by
  refine once_rising _ ?_
  have := List.pairwise_mergeSort (le := fun x y : Int => decide (x ≤ y)) (fun a b c h1 h2 => by simp at *; omega) (fun a b => by simp; omega) (vals f p)
  exact this.imp fun h => by simpa using h
/-- Those below n that are asked. -/
def asked (f : Int) (p : T) (n : Nat) : List Int := ((List.range n).filter fun (v : Nat) => decide ((v : Int) ∈ vals f p)).map fun (v : Nat) => (v : Int)
theorem asked_next (f : Int) (p : T) (n : Nat) : asked f p (n + 1) = asked f p n ++ (if (n : Int) ∈ vals f p then [(n : Int)] else []) := by
  unfold asked
  rw [List.range_succ, List.filter_append, List.map_append]
  congr 1
  by_cases h : (n : Int) ∈ vals f p
  · simp [h]
  · simp [h]
theorem asked_mem (f : Int) (p : T) (n : Nat) (v : Int) : v ∈ asked f p n ↔ (0 ≤ v ∧ v < n) ∧ v ∈ vals f p := by
  unfold asked
  simp only [List.mem_map, List.mem_filter, List.mem_range, decide_eq_true_eq]
  constructor
  · rintro ⟨a, ⟨h1, h2⟩, rfl⟩
    exact ⟨by omega, h2⟩
  · rintro ⟨⟨h0, h1⟩, h2⟩
    exact ⟨v.toNat, ⟨by omega, by rw [show ((v.toNat : Nat) : Int) = v by omega]; exact h2⟩, by omega⟩
theorem asked_rising (f : Int) (p : T) : ∀ n, (asked f p n).Pairwise (· < ·)
  | 0 => by simp [asked]
  | n + 1 => by
    rw [asked_next]
    refine List.pairwise_append.2 ⟨asked_rising f p n, by split <;> simp, fun a ha b hb => ?_⟩
    have h1 := (asked_mem f p n a).1 ha
    split at hb
    · rw [List.mem_singleton.1 hb]; omega
    · simp at hb
theorem asked_len (f : Int) (p : T) (n : Nat) : (asked f p n).length ≤ n := by
  unfold asked
  rw [List.length_map]
  exact Nat.le_trans (List.length_filter_le _ _) (by simp)
theorem top_nonneg (f : Int) : 0 ≤ top f := by unfold top; split <;> first | omega | (split <;> first | omega | (split <;> omega))
theorem asked_values (f : Int) (p : T) (h : fits p = true) : asked f p ((top f).toNat + 1) = values f p := by
  refine rising_eq _ _ (asked_rising f p _) (values_rising f p) fun v => ?_
  rw [asked_mem, values_mem]
  have := top_nonneg f
  exact ⟨fun h => h.2, fun hv => ⟨by have := vals_top f p h v hv; omega, hv⟩⟩
mutual
/-- Packets that differ by numbers alone that are not asked are not told apart. -/
theorem hits_alike (x y : At) : ∀ p : T, (∀ f, 0 ≤ f ∧ f ≤ 5 → ∀ v ∈ vals f p, get f x ≠ get f y → get f x ≠ v ∧ get f y ≠ v) → hits x p = hits y p
  | .mk k a v l, h => by
    have hl : ∀ f, 0 ≤ f ∧ f ≤ 5 → ∀ w ∈ valsL f l, get f x ≠ get f y → get f x ≠ w ∧ get f y ≠ w := fun f hf w hw => h f hf w (by rw [vals]; exact List.mem_append_right _ hw)
    have e1 := hits_alike1 x y l hl
    have e5 := hits_alikeA x y l hl
    have e6 := hits_alikeN x y l hl
    rw [hits.eq_def, hits.eq_def]
    simp only
    rw [e5, e6, e1]
    have h3 : k = 3 → decide ((0 ≤ a ∧ a ≤ 5) ∧ get a x = v) = decide ((0 ≤ a ∧ a ≤ 5) ∧ get a y = v) := fun hk => by
      by_cases ha : 0 ≤ a ∧ a ≤ 5
      · have hv := h a ha v (by rw [vals, if_pos ⟨hk, rfl⟩]; simp)
        by_cases hne : get a x = get a y
        · rw [hne]
        · have := hv hne
          simp [this.1, this.2]
      · simp [ha]
    by_cases hk : k = 3
    · rw [h3 hk]
    · simp only [if_neg hk]
theorem hits_alike1 (x y : At) : ∀ l : List T, (∀ f, 0 ≤ f ∧ f ≤ 5 → ∀ v ∈ valsL f l, get f x ≠ get f y → get f x ≠ v ∧ get f y ≠ v) → hits1 x l = hits1 y l
  | [], _ => rfl
  | p :: l, h => by rw [hits1, hits1]; exact hits_alike x y p fun f hf v hv => h f hf v (by rw [valsL]; exact List.mem_append_left _ hv)
theorem hits_alikeA (x y : At) : ∀ l : List T, (∀ f, 0 ≤ f ∧ f ≤ 5 → ∀ v ∈ valsL f l, get f x ≠ get f y → get f x ≠ v ∧ get f y ≠ v) → hitsAll x l = hitsAll y l
  | [], _ => rfl
  | p :: l, h => by
    rw [hitsAll, hitsAll, hits_alike x y p fun f hf v hv => h f hf v (by rw [valsL]; exact List.mem_append_left _ hv), hits_alikeA x y l fun f hf v hv => h f hf v (by rw [valsL]; exact List.mem_append_right _ hv)]
theorem hits_alikeN (x y : At) : ∀ l : List T, (∀ f, 0 ≤ f ∧ f ≤ 5 → ∀ v ∈ valsL f l, get f x ≠ get f y → get f x ≠ v ∧ get f y ≠ v) → hitsNone x l = hitsNone y l
  | [], _ => rfl
  | p :: l, h => by
    rw [hitsNone, hitsNone, hits_alike x y p fun f hf v hv => h f hf v (by rw [valsL]; exact List.mem_append_left _ hv), hits_alikeN x y l fun f hf v hv => h f hf v (by rw [valsL]; exact List.mem_append_right _ hv)]
end
end Pd
end Go.Proofs.YtfolnkbkojjcbaaDoor

