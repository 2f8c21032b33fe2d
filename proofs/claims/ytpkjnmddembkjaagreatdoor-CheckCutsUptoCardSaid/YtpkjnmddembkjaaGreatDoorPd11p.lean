/-
  Conditions: what they are pushed to; the numbers with which a field is asked. Plain.
-/
import Derived.Test.YtpkjnmddembkjaaGreatDoorPd1p
namespace Go.Proofs.YtpkjnmddembkjaaGreatDoor
open Go.Sx
set_option maxRecDepth 20000
set_option linter.unusedVariables false
namespace Pd
mutual
def push : T → Bool → T
  | .mk k f v l, nt => if k = 4 then push1 (.mk k f v l) l (!nt) else if k = 1 ∨ k = 2 then (if nt then .mk (3 - k) 0 0 [] else .mk k f v l)
    else if k = 5 ∨ k = 6 then .mk (if nt then 11 - k else k) 0 0 (pushL l nt) else (if nt then .mk 4 0 0 [.mk k f v l] else .mk k f v l)
def push1 (d : T) : List T → Bool → T
  | [], _ => d
  | p :: _, nt => push p nt
def pushL : List T → Bool → List T
  | [], _ => []
  | p :: l, nt => push p nt :: pushL l nt
end
/-! ### Values -/
mutual
def vals (f : Int) : T → List Int
  | .mk k a v l => (if k = 3 ∧ a = f then [v] else []) ++ valsL f l
def valsL (f : Int) : List T → List Int
  | [] => []
  | p :: l => vals f p ++ valsL f l
end
theorem valsL_append (f : Int) (a b : List T) : valsL f (a ++ b) = valsL f a ++ valsL f b := by
  induction a with
  | nil => rfl
  | cons p a ih => rw [List.cons_append, valsL, valsL, ih, List.append_assoc]
theorem valsL_take (f : Int) {l : List T} {k : Nat} (h : k < l.length) : valsL f (l.take (k + 1)) = valsL f (l.take k) ++ vals f l[k] := by
  rw [List.take_add_one, List.getElem?_eq_getElem h, valsL_append]
  congr 1
  show vals f l[k] ++ [] = _
  simp
mutual
theorem vals_len (f : Int) : ∀ p : T, (vals f p).length ≤ size p
  | .mk k a v l => by
    have := valsL_len f l
    rw [vals, size, List.length_append]
    split
    · simp; omega
    · simp; omega
theorem valsL_len (f : Int) : ∀ l : List T, (valsL f l).length ≤ sizeL l
  | [] => by simp [valsL]
  | p :: l => by have := vals_len f p; have := valsL_len f l; rw [valsL, sizeL, List.length_append]; omega
end
/-- One of each of those that stand beside each other. -/
def once : List Int → List Int
  | [] => []
  | [x] => [x]
  | x :: y :: l => if x = y then once (y :: l) else x :: once (y :: l)
/-- The values, rising. -/
def values (f : Int) (p : T) : List Int := once ((vals f p).mergeSort fun x y => decide (x ≤ y))
mutual
/-- Packets that differ by numbers alone that are not asked are not told apart. -/
theorem hits_alike (x y : At) : ∀ p : T, (∀ f, 0 ≤ f ∧ f ≤ 5 → ∀ v ∈ vals f p, get f x ≠ get f y → get f x ≠ v ∧ get f y ≠ v) → hits x p = hits y p
  | .mk k a v l, h => by
    have hl : ∀ f, 0 ≤ f ∧ f ≤ 5 → ∀ w ∈ valsL f l, get f x ≠ get f y → get f x ≠ w ∧ get f y ≠ w := fun f hf w hw => h f hf w (by rw [vals]; exact List.mem_append_right _ hw)
    have e1 := hits_alike1 x y l hl
    have e5 := hits_alikeA x y l hl
    have e6 := hits_alikeN x y l hl
    rw [hits.eq_def, hits.eq_def]
    simp only
    rw [e5, e6, e1]
    have h3 : k = 3 → decide ((0 ≤ a ∧ a ≤ 5) ∧ get a x = v) = decide ((0 ≤ a ∧ a ≤ 5) ∧ get a y = v) := fun hk => by
      by_cases ha : 0 ≤ a ∧ a ≤ 5
      · have hv := h a ha v (by rw [vals, if_pos ⟨hk, rfl⟩]; simp)
        by_cases hne : get a x = get a y
        · rw [hne]
        · have := hv hne
          simp [this.1, this.2]
      · simp [ha]
    by_cases hk : k = 3
    · rw [h3 hk]
    · simp only [if_neg hk]
theorem hits_alike1 (x y : At) : ∀ l : List T, (∀ f, 0 ≤ f ∧ f ≤ 5 → ∀ v ∈ valsL f l, get f x ≠ get f y → get f x ≠ v ∧ get f y ≠ v) → hits1 x l = hits1 y l
  | [], _ => rfl
  | p :: l, h => by rw [hits1, hits1]; exact hits_alike x y p fun f hf v hv => h f hf v (by rw [valsL]; exact List.mem_append_left _ hv)
theorem hits_alikeA (x y : At) : ∀ l : List T, (∀ f, 0 ≤ f ∧ f ≤ 5 → ∀ v ∈ valsL f l, get f x ≠ get f y → get f x ≠ v ∧ get f y ≠ v) → hitsAll x l = hitsAll y l
  | [], _ => rfl
  | p :: l, h => by
    rw [hitsAll, hitsAll, hits_alike x y p fun f hf v hv => h f hf v (by rw [valsL]; exact List.mem_append_left _ hv), hits_alikeA x y l fun f hf v hv => h f hf v (by rw [valsL]; exact List.mem_append_right _ hv)]
theorem hits_alikeN (x y : At) : ∀ l : List T, (∀ f, 0 ≤ f ∧ f ≤ 5 → ∀ v ∈ valsL f l, get f x ≠ get f y → get f x ≠ v ∧ get f y ≠ v) → hitsNone x l = hitsNone y l
  | [], _ => rfl
  | p :: l, h => by
    rw [hitsNone, hitsNone, hits_alike x y p fun f hf v hv => h f hf v (by rw [valsL]; exact List.mem_append_left _ hv), hits_alikeN x y l fun f hf v hv => h f hf v (by rw [valsL]; exact List.mem_append_right _ hv)]
end
end Pd
end Go.Proofs.YtpkjnmddembkjaaGreatDoor

