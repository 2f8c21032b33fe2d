import Derived.Test.YtngodakgbldlpaaGreatDoorJ13
import Derived.Test.YtngodakgbldlpaaGreatDoorJ7
namespace Go.Proofs.YtngodakgbldlpaaGreatDoor
open Go.Sx
set_option maxRecDepth 20000
set_option linter.unusedVariables false
namespace Pd
end Pd
namespace Po
theorem wideI_ge : ∀ (l : List T) (n : Nat), n ≤ wideI n l ∧ ∀ x ∈ l, wide x ≤ wideI n l
  | [], n => ⟨Nat.le_refl _, fun x hx => by cases hx⟩
  | y :: l, n => by
    obtain ⟨h1, h2⟩ := wideI_ge l (max n (wide y))
    rw [wideI]
    refine ⟨by omega, fun x hx => ?_⟩
    rcases List.mem_cons.1 hx with rfl | hx
    · omega
    · exact h2 x hx
theorem wide_mk (k : Int) (p : Pd.T) (f v : Int) (l : List T) : wide (.mk k p f v l) = if k = 3 then wideS 1 l else if k = 4 then wideU 0 l else if k = 5 then wideI 0 l else 1 := by rw [wide]
end Po
end Go.Proofs.YtngodakgbldlpaaGreatDoor
namespace Go.Proofs.YtngodakgbldlpaaGreatDoor
open Go.Sx
set_option maxRecDepth 20000
set_option linter.unusedVariables false
namespace Po
theorem ins_len (s : S) (l : List S) : (ins s l).length ≤ l.length + 1 := by
  induction l with
  | nil => simp [ins]
  | cons x l ih =>
    unfold ins
    split
    · simp
    · split
      · simp
      · simp only [List.length_cons]; omega
theorem both_len : ∀ (b a : List S), (both a b).length ≤ a.length + b.length
  | [], a => by simp [both]
  | x :: b, a => by
    have h1 := both_len b (ins x a)
    have h2 := ins_len x a
    unfold both at *
    rw [List.foldl_cons, List.length_cons]
    omega
theorem fold_len (sw : Int) (y : T) (w : Nat) (hw : ∀ s, (runs sw y s).length ≤ w) : ∀ (out a : List S), (out.foldl (fun next t => both next (runs sw y t)) a).length ≤ a.length + out.length * w
  | [], a => by simp
  | x :: out, a => by
    have h1 := fold_len sw y w hw out (both a (runs sw y x))
    have h2 := both_len (runs sw y x) a
    have h3 := hw x
    rw [List.foldl_cons, List.length_cons, Nat.succ_mul]
    omega
theorem wide_pos : ∀ (n : Nat) (x : T), tot x ≤ n → fits x = true → 1 ≤ wide x
  | 0, x, hn, _ => absurd (tot_pos x) (by omega)
  | n + 1, ⟨k, p, f, v, l⟩, hn, h => by
    obtain ⟨hsh, hfl⟩ := fits_iff.1 h
    have ih : ∀ y ∈ l, 1 ≤ wide y := fun y hy => wide_pos n y (by have := tot_lt (k := k) (q := p) (f := f) (v := v) hy; omega) (hfl y hy)
    have hS : ∀ (l : List T) (m : Nat), 1 ≤ m → (∀ y ∈ l, 1 ≤ wide y) → 1 ≤ wideS m l := fun l => by
      induction l with
      | nil => intro m hm _; exact hm
      | cons y l ihl =>
        intro m hm hy
        rw [wideS]
        refine ihl _ ?_ fun z hz => hy z (by simp [hz])
        have := Nat.mul_le_mul hm (hy y (by simp))
        omega
    have hU : ∀ (l : List T) (m : Nat), (l ≠ [] ∨ 1 ≤ m) → (∀ y ∈ l, 1 ≤ wide y) → 1 ≤ wideU m l := fun l => by
      induction l with
      | nil => intro m hm _; exact hm.resolve_left fun h => h rfl
      | cons y l ihl =>
        intro m hm hy
        rw [wideU]
        refine ihl _ (.inr ?_) fun z hz => hy z (by simp [hz])
        have := hy y (by simp)
        omega
    rw [wide_mk]
    rcases hsh with ⟨rfl, _, _, hl⟩ | ⟨rfl, _, _, _, hl⟩ | ⟨rfl | rfl, _, _, hl1, hl2⟩ | ⟨rfl, _, _, hl⟩
    · simp
    · simp
    · simp; exact hS l 1 (Nat.le_refl _) ih
    · simp; exact hU l 0 (.inl fun e => by rw [e] at hl1; simp at hl1) ih
    · simp
      match l, hl with
      | [a, b], _ =>
        have h1 := ih a (by simp)
        have h2 := (wideI_ge [a, b] 0).2 a (by simp)
        omega
theorem wideS_ge {l : List T} (hw : ∀ y ∈ l, 1 ≤ wide y) : ∀ m, 1000 ≤ m → 1000 ≤ wideS m l := by
  induction l with
  | nil => intro m hm; exact hm
  | cons y l ih =>
    intro m hm
    rw [wideS]
    refine ih (fun z hz => hw z (by simp [hz])) _ ?_
    have := Nat.mul_le_mul hm (hw y (by simp))
    omega
theorem wideU_ge {l : List T} : ∀ m, 1000 ≤ m → 1000 ≤ wideU m l := by
  induction l with
  | nil => intro m hm; exact hm
  | cons y l ih =>
    intro m hm
    rw [wideU]
    exact ih _ (by omega)
theorem runsQ_len (sw : Int) : ∀ (l : List T) (out : List S) (m : Nat), (∀ y ∈ l, ∀ s, wide y < 1000 → (runs sw y s).length ≤ wide y) → (∀ y ∈ l, 1 ≤ wide y) → 1 ≤ m → out.length ≤ m → wideS m l < 1000 → (runsQ sw l out).length ≤ wideS m l
  | [], out, m, _, _, _, ho, _ => by rw [runsQ, wideS]; exact ho
  | y :: l, out, m, hy, hp, hm, ho, hw => by
    rw [wideS] at hw ⊢
    rw [runsQ]
    have hlt : m * wide y < 1000 := Classical.byContradiction fun hn => by
      have := wideS_ge (l := l) (fun z hz => hp z (by simp [hz])) (min (m * wide y) 1000) (by omega)
      omega
    have hyl : wide y < 1000 := Nat.lt_of_le_of_lt (Nat.le_mul_of_pos_left _ hm) hlt
    have hmin : min (m * wide y) 1000 = m * wide y := by omega
    rw [hmin] at hw ⊢
    refine runsQ_len sw l _ _ (fun z hz => hy z (by simp [hz])) (fun z hz => hp z (by simp [hz])) (Nat.mul_le_mul hm (hp y (by simp))) ?_ hw
    have := fold_len sw y (wide y) (fun s => hy y (by simp) s hyl) out []
    have h2 := Nat.mul_le_mul_right (wide y) ho
    simp only [List.length_nil, Nat.zero_add] at this
    omega
theorem runsU_len (sw : Int) (s : S) : ∀ (l : List T) (out : List S) (m : Nat), (∀ y ∈ l, wide y < 1000 → (runs sw y s).length ≤ wide y) → out.length ≤ m → wideU m l < 1000 → (runsU sw l s out).length ≤ wideU m l
  | [], out, m, _, ho, _ => by rw [runsU, wideU]; exact ho
  | y :: l, out, m, hy, ho, hw => by
    rw [wideU] at hw ⊢
    rw [runsU]
    have hlt : m + wide y < 1000 := Classical.byContradiction fun hn => by
      have := wideU_ge (l := l) (min (m + wide y) 1000) (by omega)
      omega
    have hmin : min (m + wide y) 1000 = m + wide y := by omega
    rw [hmin] at hw ⊢
    refine runsU_len sw s l _ _ (fun z hz => hy z (by simp [hz])) ?_ hw
    have h1 := both_len (runs sw y s) out
    have h2 := hy y (by simp) (by omega)
    omega
theorem runs_len (sw : Int) : ∀ (n : Nat) (x : T), tot x ≤ n → fits x = true → ∀ s, wide x < 1000 → (runs sw x s).length ≤ wide x
  | 0, x, hn, _ => absurd (tot_pos x) (by omega)
  | n + 1, ⟨k, p, f, v, l⟩, hn, h => fun s hw => by
    obtain ⟨hsh, hfl⟩ := fits_iff.1 h
    have ih : ∀ y ∈ l, ∀ s, wide y < 1000 → (runs sw y s).length ≤ wide y := fun y hy => runs_len sw n y (by have := tot_lt (k := k) (q := p) (f := f) (v := v) hy; omega) (hfl y hy)
    have hp : ∀ y ∈ l, 1 ≤ wide y := fun y hy => wide_pos _ y (Nat.le_refl _) (hfl y hy)
    rw [wide_mk] at hw ⊢
    rw [runs_mk]
    rcases hsh with ⟨rfl, _, _, hl⟩ | ⟨rfl, _, _, _, hl⟩ | ⟨rfl | rfl, _, _, hl1, hl2⟩ | ⟨rfl, _, _, hl⟩
    · simp
      split <;> simp
    · simp
    · simp at hw ⊢
      exact runsQ_len sw l [s] 1 ih hp (Nat.le_refl _) (by simp) hw
    · simp at hw ⊢
      exact runsU_len sw s l [] 0 (fun y hy => ih y hy s) (by simp) hw
    · simp at hw ⊢
      match l, hl with
      | [a, b], _ =>
        have h1 := (wideI_ge [a, b] 0).2 a (by simp)
        have h2 := (wideI_ge [a, b] 0).2 b (by simp)
        split
        · rw [runsA]; exact Nat.le_trans (ih a (by simp) s (by omega)) h1
        · rw [runsB, runsA]; exact Nat.le_trans (ih b (by simp) s (by omega)) h2
theorem runs_64 (sw : Int) (x : T) (h : right x = true) (s : S) : (runs sw x s).length ≤ 64 := by
  have hf := right_fits' h
  unfold right at h
  simp only [Bool.and_eq_true, decide_eq_true_eq] at h
  exact Nat.le_trans (runs_len sw _ x (Nat.le_refl _) hf s (by omega)) h.2.2.2
end Po
end Go.Proofs.YtngodakgbldlpaaGreatDoor
