/-
  What comes of a packet is no more than a policy is wide; at a switch it is the same. Plain; Policies: laws of what comes of a packet. Plain.
-/
import Derived.Test.YtngodakgbldlpaaGreatDoorJ2
import Derived.Test.YtngodakgbldlpaaGreatDoorJ4
namespace Go.Proofs.YtngodakgbldlpaaGreatDoor
open Go.Sx
set_option maxRecDepth 20000
set_option linter.unusedVariables false
namespace Po
/-! ### How many come -/
theorem ins_len (s : S) (l : List S) : (ins s l).length ≤ l.length + 1 := by
  induction l with
  | nil => simp [ins]
  | cons x l ih =>
    unfold ins
    split
    · simp
    · split
      · simp
      · simp only [List.length_cons]; omega
theorem both_len : ∀ (b a : List S), (both a b).length ≤ a.length + b.length
  | [], a => by simp [both]
  | x :: b, a => by
    have h1 := both_len b (ins x a)
    have h2 := ins_len x a
    unfold both at *
    rw [List.foldl_cons, List.length_cons]
    omega
theorem fold_len (sw : Int) (y : T) (w : Nat) (hw : ∀ s, (runs sw y s).length ≤ w) : ∀ (out a : List S), (out.foldl (fun next t => both next (runs sw y t)) a).length ≤ a.length + out.length * w
  | [], a => by simp
  | x :: out, a => by
    have h1 := fold_len sw y w hw out (both a (runs sw y x))
    have h2 := both_len (runs sw y x) a
    have h3 := hw x
    rw [List.foldl_cons, List.length_cons, Nat.succ_mul]
    omega
theorem wide_pos : ∀ (n : Nat) (x : T), tot x ≤ n → fits x = true → 1 ≤ wide x
  | 0, x, hn, _ => absurd (tot_pos x) (by omega)
  | n + 1, ⟨k, p, f, v, l⟩, hn, h => by
    obtain ⟨hsh, hfl⟩ := fits_iff.1 h
    have ih : ∀ y ∈ l, 1 ≤ wide y := fun y hy => wide_pos n y (by have := tot_lt (k := k) (q := p) (f := f) (v := v) hy; omega) (hfl y hy)
    have hS : ∀ (l : List T) (m : Nat), 1 ≤ m → (∀ y ∈ l, 1 ≤ wide y) → 1 ≤ wideS m l := fun l => by
      induction l with
      | nil => intro m hm _; exact hm
      | cons y l ihl =>
        intro m hm hy
        rw [wideS]
        refine ihl _ ?_ fun z hz => hy z (by simp [hz])
        have := Nat.mul_le_mul hm (hy y (by simp))
        omega
    have hU : ∀ (l : List T) (m : Nat), (l ≠ [] ∨ 1 ≤ m) → (∀ y ∈ l, 1 ≤ wide y) → 1 ≤ wideU m l := fun l => by
      induction l with
      | nil => intro m hm _; exact hm.resolve_left fun h => h rfl
      | cons y l ihl =>
        intro m hm hy
        rw [wideU]
        refine ihl _ (.inr ?_) fun z hz => hy z (by simp [hz])
        have := hy y (by simp)
        omega
    rw [wide_mk]
    rcases hsh with ⟨rfl, _, _, hl⟩ | ⟨rfl, _, _, _, hl⟩ | ⟨rfl | rfl, _, _, hl1, hl2⟩ | ⟨rfl, _, _, hl⟩
    · simp
    · simp
    · simp; exact hS l 1 (Nat.le_refl _) ih
    · simp; exact hU l 0 (.inl fun e => by rw [e] at hl1; simp at hl1) ih
    · simp
      match l, hl with
      | [a, b], _ =>
        have h1 := ih a (by simp)
        have h2 := (wideI_ge [a, b] 0).2 a (by simp)
        omega
theorem wideS_ge {l : List T} (hw : ∀ y ∈ l, 1 ≤ wide y) : ∀ m, 1000 ≤ m → 1000 ≤ wideS m l := by
  induction l with
  | nil => intro m hm; exact hm
  | cons y l ih =>
    intro m hm
    rw [wideS]
    refine ih (fun z hz => hw z (by simp [hz])) _ ?_
    have := Nat.mul_le_mul hm (hw y (by simp))
    omega
theorem wideU_ge {l : List T} : ∀ m, 1000 ≤ m → 1000 ≤ wideU m l := by
  induction l with
  | nil => intro m hm; exact hm
  | cons y l ih =>
    intro m hm
    rw [wideU]
    exact ih _ (by omega)
theorem runsQ_len (sw : Int) : ∀ (l : List T) (out : List S) (m : Nat), (∀ y ∈ l, ∀ s, wide y < 1000 → (runs sw y s).length ≤ wide y) → (∀ y ∈ l, 1 ≤ wide y) → 1 ≤ m → out.length ≤ m → wideS m l < 1000 → (runsQ sw l out).length ≤ wideS m l
  | [], out, m, _, _, _, ho, _ => by rw [runsQ, wideS]; exact ho
  | y :: l, out, m, hy, hp, hm, ho, hw => by
    rw [wideS] at hw ⊢
    rw [runsQ]
    have hlt : m * wide y < 1000 := Classical.byContradiction fun hn => by
      have := wideS_ge (l := l) (fun z hz => hp z (by simp [hz])) (min (m * wide y) 1000) (by omega)
      omega
    have hyl : wide y < 1000 := Nat.lt_of_le_of_lt (Nat.le_mul_of_pos_left _ hm) hlt
    have hmin : min (m * wide y) 1000 = m * wide y := by omega
    rw [hmin] at hw ⊢
    refine runsQ_len sw l _ _ (fun z hz => hy z (by simp [hz])) (fun z hz => hp z (by simp [hz])) (Nat.mul_le_mul hm (hp y (by simp))) ?_ hw
    have := fold_len sw y (wide y) (fun s => hy y (by simp) s hyl) out []
    have h2 := Nat.mul_le_mul_right (wide y) ho
    simp only [List.length_nil, Nat.zero_add] at this
    omega
theorem runsU_len (sw : Int) (s : S) : ∀ (l : List T) (out : List S) (m : Nat), (∀ y ∈ l, wide y < 1000 → (runs sw y s).length ≤ wide y) → out.length ≤ m → wideU m l < 1000 → (runsU sw l s out).length ≤ wideU m l
  | [], out, m, _, ho, _ => by rw [runsU, wideU]; exact ho
  | y :: l, out, m, hy, ho, hw => by
    rw [wideU] at hw ⊢
    rw [runsU]
    have hlt : m + wide y < 1000 := Classical.byContradiction fun hn => by
      have := wideU_ge (l := l) (min (m + wide y) 1000) (by omega)
      omega
    have hmin : min (m + wide y) 1000 = m + wide y := by omega
    rw [hmin] at hw ⊢
    refine runsU_len sw s l _ _ (fun z hz => hy z (by simp [hz])) ?_ hw
    have h1 := both_len (runs sw y s) out
    have h2 := hy y (by simp) (by omega)
    omega
theorem runs_len (sw : Int) : ∀ (n : Nat) (x : T), tot x ≤ n → fits x = true → ∀ s, wide x < 1000 → (runs sw x s).length ≤ wide x
  | 0, x, hn, _ => absurd (tot_pos x) (by omega)
  | n + 1, ⟨k, p, f, v, l⟩, hn, h => fun s hw => by
    obtain ⟨hsh, hfl⟩ := fits_iff.1 h
    have ih : ∀ y ∈ l, ∀ s, wide y < 1000 → (runs sw y s).length ≤ wide y := fun y hy => runs_len sw n y (by have := tot_lt (k := k) (q := p) (f := f) (v := v) hy; omega) (hfl y hy)
    have hp : ∀ y ∈ l, 1 ≤ wide y := fun y hy => wide_pos _ y (Nat.le_refl _) (hfl y hy)
    rw [wide_mk] at hw ⊢
    rw [runs_mk]
    rcases hsh with ⟨rfl, _, _, hl⟩ | ⟨rfl, _, _, _, hl⟩ | ⟨rfl | rfl, _, _, hl1, hl2⟩ | ⟨rfl, _, _, hl⟩
    · simp
      split <;> simp
    · simp
    · simp at hw ⊢
      exact runsQ_len sw l [s] 1 ih hp (Nat.le_refl _) (by simp) hw
    · simp at hw ⊢
      exact runsU_len sw s l [] 0 (fun y hy => ih y hy s) (by simp) hw
    · simp at hw ⊢
      match l, hl with
      | [a, b], _ =>
        have h1 := (wideI_ge [a, b] 0).2 a (by simp)
        have h2 := (wideI_ge [a, b] 0).2 b (by simp)
        split
        · rw [runsA]; exact Nat.le_trans (ih a (by simp) s (by omega)) h1
        · rw [runsB, runsA]; exact Nat.le_trans (ih b (by simp) s (by omega)) h2
theorem runs_64 (sw : Int) (x : T) (h : right x = true) (s : S) : (runs sw x s).length ≤ 64 := by
  have hf := right_fits' h
  unfold right at h
  simp only [Bool.and_eq_true, decide_eq_true_eq] at h
  exact Nat.le_trans (runs_len sw _ x (Nat.le_refl _) hf s (by omega)) h.2.2.2
end Po
end Go.Proofs.YtngodakgbldlpaaGreatDoor
namespace Go.Proofs.YtngodakgbldlpaaGreatDoor
open Go.Sx
set_option maxRecDepth 20000
set_option linter.unusedVariables false
namespace Po
theorem runs_eq (sw sw' : Int) {x y : T} {s s' : S} (h : ∀ t, t ∈ runs sw x s ↔ t ∈ runs sw' y s') : runs sw x s = runs sw' y s' :=
  rising_eq (runs_rising sw s _ x (Nat.le_refl _)) (runs_rising sw' s' _ y (Nat.le_refl _)) h
def seqT (l : List T) : T := .mk 3 noneP 0 0 l
def uniT (l : List T) : T := .mk 4 noneP 0 0 l
def filT (p : Pd.T) : T := .mk 1 p 0 0 []
def setT (f v : Int) : T := .mk 2 noneP f v []
def truP : Pd.T := .mk 1 0 0 []
def falP : Pd.T := .mk 2 0 0 []
theorem runs_seq (sw : Int) (l : List T) (s : S) : runs sw (seqT l) s = runsQ sw l [s] := by unfold seqT; rw [runs_mk]; simp
theorem runs_uni (sw : Int) (l : List T) (s : S) : runs sw (uniT l) s = runsU sw l s [] := by unfold uniT; rw [runs_mk]; simp
theorem runs_fil (sw : Int) (p : Pd.T) (s : S) : runs sw (filT p) s = if Pd.hits (s.at_ sw) p = true then [s] else [] := by unfold filT; rw [runs_mk]; simp
theorem runs_set (sw f v : Int) (s : S) : runs sw (setT f v) s = [put f v s] := by unfold setT; rw [runs_mk]; simp
theorem mem_seq1 (sw : Int) (y : T) (l : List T) (out : List S) (t : S) : t ∈ runsQ sw (y :: l) out ↔ t ∈ runsQ sw l (thenS sw y out) := by rw [runsQ]; exact Iff.rfl
theorem mem_runsQ (sw : Int) (t : S) : ∀ (l : List T) (out : List S), t ∈ runsQ sw l out ↔ ∃ s ∈ out, t ∈ runsQ sw l [s]
  | [], out => by simp [runsQ]
  | y :: l, out => by
    have e1 : ∀ o, runsQ sw (y :: l) o = runsQ sw l (thenS sw y o) := fun o => by rw [runsQ]; rfl
    rw [e1, mem_runsQ sw t l]
    constructor
    · rintro ⟨u, hu, ht⟩
      obtain ⟨s, hs, hu⟩ := (mem_then sw y u out).1 hu
      exact ⟨s, hs, by rw [e1, mem_runsQ sw t l]; exact ⟨u, (mem_then sw y u [s]).2 ⟨s, by simp, hu⟩, ht⟩⟩
    · rintro ⟨s, hs, ht⟩
      rw [e1, mem_runsQ sw t l] at ht
      obtain ⟨u, hu, ht⟩ := ht
      obtain ⟨s', hs', hu⟩ := (mem_then sw y u [s]).1 hu
      rw [List.mem_singleton.1 hs'] at hu
      exact ⟨u, (mem_then sw y u out).2 ⟨s, hs, hu⟩, ht⟩
theorem mem_Q0 (sw : Int) (s t : S) : t ∈ runsQ sw [] [s] ↔ t = s := by simp [runsQ]
theorem mem_Q1 (sw : Int) (y : T) (l : List T) (s t : S) : t ∈ runsQ sw (y :: l) [s] ↔ ∃ u ∈ runs sw y s, t ∈ runsQ sw l [u] := by
  rw [mem_seq1, mem_runsQ]
  constructor
  · rintro ⟨u, hu, ht⟩
    obtain ⟨s', hs', hu⟩ := (mem_then sw y u [s]).1 hu
    rw [List.mem_singleton.1 hs'] at hu
    exact ⟨u, hu, ht⟩
  · rintro ⟨u, hu, ht⟩
    exact ⟨u, (mem_then sw y u [s]).2 ⟨s, by simp, hu⟩, ht⟩
theorem mem_Qone (sw : Int) (y : T) (s t : S) : t ∈ runsQ sw [y] [s] ↔ t ∈ runs sw y s := by
  rw [mem_Q1]
  constructor
  · rintro ⟨u, hu, ht⟩
    rw [(mem_Q0 sw u t).1 ht]; exact hu
  · intro h
    exact ⟨t, h, (mem_Q0 sw t t).2 rfl⟩
/-! ### Units -/
theorem id_run (sw : Int) (s : S) : runs sw (filT truP) s = [s] := by rw [runs_fil, truP, Pd.hits_mk1]; rfl
theorem drop_run (sw : Int) (s : S) : runs sw (filT falP) s = [] := by rw [runs_fil, falP, Pd.hits_mk2]; rfl
theorem id_ahead (sw : Int) (x : T) (s : S) : runs sw (seqT [filT truP, x]) s = runs sw x s := runs_eq sw sw fun t => by
  rw [runs_seq, mem_Q1, id_run]
  simp [mem_Qone]
theorem id_behind (sw : Int) (x : T) (s : S) : runs sw (seqT [x, filT truP]) s = runs sw x s := runs_eq sw sw fun t => by
  rw [runs_seq, mem_Q1]
  simp only [mem_Qone, id_run, List.mem_singleton]
  constructor
  · rintro ⟨u, hu, rfl⟩; exact hu
  · intro h; exact ⟨t, h, rfl⟩
theorem drop_beside (sw : Int) (x : T) (s : S) : runs sw (uniT [filT falP, x]) s = runs sw x s := runs_eq sw sw fun t => by
  rw [runs_uni, mem_runsU]
  simp [drop_run]
theorem drop_ahead (sw : Int) (x : T) (s : S) : runs sw (seqT [filT falP, x]) s = [] := by
  rw [List.eq_nil_iff_forall_not_mem]
  intro t
  rw [runs_seq, mem_Q1, drop_run]
  simp
theorem drop_behind (sw : Int) (x : T) (s : S) : runs sw (seqT [x, filT falP]) s = [] := by
  rw [List.eq_nil_iff_forall_not_mem]
  intro t
  rw [runs_seq, mem_Q1]
  simp [mem_Qone, drop_run]
theorem ptop_top {f : Int} (h : 0 ≤ f ∧ f < 4) : ptop f = Pd.top f := by
  unfold ptop Pd.top
  rw [if_neg (by omega : ¬ (f = 4 ∨ f = 5))]
theorem put_put {f v w : Int} (s : S) (hf : 0 ≤ f ∧ f ≤ 4) (hv : 0 ≤ v ∧ v ≤ Pd.top f) (hw : 0 ≤ w ∧ w ≤ Pd.top f) : put f w (put f v s) = put f w s := by
  unfold put
  by_cases h4 : f = 4
  · rw [if_pos h4, if_pos h4, if_pos h4]
  · rw [if_neg h4, if_neg h4, if_neg h4]
    have e := ptop_top (f := f) (by omega)
    have ok : ∀ x s, (0 ≤ x ∧ x ≤ Pd.top f) → withS f x s = if f = 0 then { s with p0 := x } else if f = 1 then { s with p1 := x } else if f = 2 then { s with p2 := x } else { s with p3 := x } := fun x s hx => by
      unfold withS
      rw [e]
      exact if_pos ⟨by omega, hx⟩
    rw [ok v s hv, ok w _ hw, ok w s hw]
    have : f = 0 ∨ f = 1 ∨ f = 2 ∨ f = 3 := by omega
    rcases this with rfl | rfl | rfl | rfl <;> simp
theorem two_law (sw f v w : Int) (s : S) (h : right (seqT [setT f v, setT f w]) = true) : runs sw (seqT [setT f v, setT f w]) s = runs sw (setT f w) s := by
  obtain ⟨_, hl⟩ := fits_iff.1 (right_fits' h)
  obtain ⟨h1, _⟩ := fits_iff.1 (hl (setT f v) (by simp))
  obtain ⟨h2, _⟩ := fits_iff.1 (hl (setT f w) (by simp))
  have g1 : (0 ≤ f ∧ f ≤ 4) ∧ (0 ≤ v ∧ v ≤ Pd.top f) := by
    rcases h1 with h | ⟨_, _, h, h', _⟩ | h | h
    · omega
    · exact ⟨h, h'⟩
    · omega
    · omega
  have g2 : (0 ≤ w ∧ w ≤ Pd.top f) := by
    rcases h2 with h | ⟨_, _, h, h', _⟩ | h | h
    · omega
    · exact h'
    · omega
    · omega
  refine runs_eq sw sw fun t => ?_
  rw [runs_seq, mem_Q1, runs_set]
  simp only [mem_Qone, runs_set, List.mem_singleton, exists_eq_left]
  rw [put_put s g1.1 g1.2 g2]
end Po
end Go.Proofs.YtngodakgbldlpaaGreatDoor

