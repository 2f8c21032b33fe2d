import Derived.Test.YtngodakgbldlpaaGreatDoorJ1
import Derived.Test.YtngodakgbldlpaaGreatDoorJ11
namespace Go.Proofs.YtngodakgbldlpaaGreatDoor
open Go.Sx
set_option maxRecDepth 20000
set_option linter.unusedVariables false
namespace Po
mutual
def vals (f : Int) : T → List Int
  | .mk k p a v l => (if k = 2 ∧ a = f then [v] else []) ++ Pd.values f p ++ valsL f l
def valsL (f : Int) : List T → List Int
  | [] => []
  | x :: l => vals f x ++ valsL f l
end
theorem valsL_append (f : Int) (a b : List T) : valsL f (a ++ b) = valsL f a ++ valsL f b := by
  induction a with
  | nil => rfl
  | cons p a ih => rw [List.cons_append, valsL, valsL, ih, List.append_assoc]
theorem valsL_take (f : Int) {l : List T} {k : Nat} (h : k < l.length) : valsL f (l.take (k + 1)) = valsL f (l.take k) ++ vals f l[k] := by
  rw [List.take_add_one, List.getElem?_eq_getElem h, valsL_append]
  congr 1
  show vals f l[k] ++ [] = _
  simp
theorem once_len : ∀ l : List Int, (Pd.once l).length ≤ l.length
  | [] => by simp [Pd.once]
  | [x] => by simp [Pd.once]
  | x :: y :: l => by
    have := once_len (y :: l)
    rw [Pd.once]
    split
    · simp only [List.length_cons] at *; omega
    · simp only [List.length_cons] at *; omega
theorem pvalues_len (f : Int) (p : Pd.T) : (Pd.values f p).length ≤ Pd.size p := by
  have h1 := once_len ((Pd.vals f p).mergeSort fun x y => decide (x ≤ y))
  rw [List.length_mergeSort] at h1
  exact Nat.le_trans h1 (Pd.vals_len f p)
mutual
theorem vals_len (f : Int) : ∀ x : T, (vals f x).length ≤ tot x
  | .mk k p a v l => by
    have := valsL_len f l
    have := pvalues_len f p
    rw [vals, tot, List.length_append, List.length_append]
    split
    · simp; omega
    · simp; omega
theorem valsL_len (f : Int) : ∀ l : List T, (valsL f l).length ≤ totL l
  | [] => by simp [valsL]
  | p :: l => by have := vals_len f p; have := valsL_len f l; rw [valsL, totL, List.length_append]; omega
end
theorem right_fits {p : Pd.T} (h : Pd.right p = true) : Pd.fits p = true := by
  unfold Pd.right at h
  simp only [Bool.and_eq_true, decide_eq_true_eq] at h
  exact h.1
mutual
theorem vals_top (f : Int) : ∀ x : T, fits x = true → ∀ v ∈ vals f x, 0 ≤ v ∧ v ≤ Pd.top f
  | .mk k p a w l, h, v, hv => by
    obtain ⟨hs, hl⟩ := fits_mk h
    rw [vals, List.mem_append, List.mem_append] at hv
    rcases hv with (hv | hv) | hv
    · split at hv
      · rename_i hk
        obtain ⟨rfl, rfl⟩ := hk
        rw [List.mem_singleton.1 hv]
        rcases hs with ⟨e, _⟩ | ⟨_, _, _, h1, _⟩ | ⟨e, _⟩ | ⟨e, _⟩
        · omega
        · exact h1
        · omega
        · omega
      · simp at hv
    · rw [Pd.values_mem] at hv
      have hr : Pd.right p = true ∨ none p = true := by
        rcases hs with ⟨_, h1, _⟩ | ⟨_, h1, _⟩ | ⟨_, h1, _⟩ | ⟨_, h1, _⟩
        · exact .inl h1
        · exact .inr h1
        · exact .inr h1
        · exact .inl h1
      rcases hr with hr | hr
      · exact Pd.vals_top f p (right_fits hr) v hv
      · rw [(Pd.same_eq _ _).1 hr] at hv
        simp [noneP, Pd.vals, Pd.valsL] at hv
    · exact valsL_top f l hl v hv
theorem valsL_top (f : Int) : ∀ l : List T, (∀ x ∈ l, fits x = true) → ∀ v ∈ valsL f l, 0 ≤ v ∧ v ≤ Pd.top f
  | [], _, v, hv => by simp [valsL] at hv
  | x :: l, h, v, hv => by
    rw [valsL, List.mem_append] at hv
    rcases hv with hv | hv
    · exact vals_top f x (h x (by simp)) v hv
    · exact valsL_top f l (fun y hy => h y (List.mem_cons_of_mem _ hy)) v hv
end
def values (f : Int) (x : T) : List Int := Pd.once ((vals f x).mergeSort fun x y => decide (x ≤ y))
theorem values_mem (f : Int) (x : T) (v : Int) : v ∈ values f x ↔ v ∈ vals f x := by
  unfold values
  rw [Pd.once_mem]
  exact List.mem_mergeSort
theorem values_len (f : Int) (x : T) : (values f x).length ≤ tot x := by
  have h1 := once_len ((vals f x).mergeSort fun x y => decide (x ≤ y))
  rw [List.length_mergeSort] at h1
  exact Nat.le_trans h1 (vals_len f x)
theorem values_rising (f : Int) (x : T) : (values f x).Pairwise (· < ·) := by
  refine Pd.once_rising _ ?_
  have := List.pairwise_mergeSort (le := fun x y : Int => decide (x ≤ y)) (fun a b c h1 h2 => by simp at *; omega) (fun a b => by simp; omega) (vals f x)
  exact this.imp fun h => by simpa using h
def asked (f : Int) (x : T) (n : Nat) : List Int := ((List.range n).filter fun (v : Nat) => decide ((v : Int) ∈ vals f x)).map fun (v : Nat) => (v : Int)
theorem asked_next (f : Int) (x : T) (n : Nat) : asked f x (n + 1) = asked f x n ++ (if (n : Int) ∈ vals f x then [(n : Int)] else []) := by
  unfold asked
  rw [List.range_succ, List.filter_append, List.map_append]
  congr 1
  by_cases h : (n : Int) ∈ vals f x
  · simp [h]
  · simp [h]
theorem asked_mem (f : Int) (x : T) (n : Nat) (v : Int) : v ∈ asked f x n ↔ (0 ≤ v ∧ v < n) ∧ v ∈ vals f x := by
  unfold asked
  simp only [List.mem_map, List.mem_filter, List.mem_range, decide_eq_true_eq]
  constructor
  · rintro ⟨a, ⟨h1, h2⟩, rfl⟩
    exact ⟨by omega, h2⟩
  · rintro ⟨⟨h0, h1⟩, h2⟩
    exact ⟨v.toNat, ⟨by omega, by rw [show ((v.toNat : Nat) : Int) = v by omega]; exact h2⟩, by omega⟩
theorem asked_rising (f : Int) (x : T) : ∀ n, (asked f x n).Pairwise (· < ·)
  | 0 => by simp [asked]
  | n + 1 => by
    rw [asked_next]
    refine List.pairwise_append.2 ⟨asked_rising f x n, by split <;> simp, fun a ha b hb => ?_⟩
    have h1 := (asked_mem f x n a).1 ha
    split at hb
    · rw [List.mem_singleton.1 hb]; omega
    · simp at hb
theorem asked_len (f : Int) (x : T) (n : Nat) : (asked f x n).length ≤ n := by
  unfold asked
  rw [List.length_map]
  exact Nat.le_trans (List.length_filter_le _ _) (by simp)
theorem asked_values (f : Int) (x : T) (h : fits x = true) : asked f x ((Pd.top f).toNat + 1) = values f x := by
  refine Pd.rising_eq _ _ (asked_rising f x _) (values_rising f x) fun v => ?_
  rw [asked_mem, values_mem]
  have := Pd.top_nonneg f
  exact ⟨fun h => h.2, fun hv => ⟨by have := vals_top f x h v hv; omega, hv⟩⟩
end Po
end Go.Proofs.YtngodakgbldlpaaGreatDoor
namespace Go.Proofs.YtngodakgbldlpaaGreatDoor
open Go.Sx
set_option maxRecDepth 20000
set_option linter.unusedVariables false
namespace Pd
end Pd
end Go.Proofs.YtngodakgbldlpaaGreatDoor
