/-
  What comes of a packet is no more than a policy is wide; at a switch it is the same. Plain; Trees: the cases of a policy. Plain.
-/
import Derived.Test.YtaolcaggdddkpaaGreatJ2
import Derived.Test.YtaolcaggdddkpaaGreatJ4
import Derived.Test.YtaolcaggdddkpaaGreatJ3
namespace Go.Proofs.YtaolcaggdddkpaaGreat
open Go.Sx
set_option maxRecDepth 20000
set_option linter.unusedVariables false
namespace Po
/-! ### How many come -/
theorem ins_len (s : S) (l : List S) : (ins s l).length ≤ l.length + 1 := by
  induction l with
  | nil => simp [ins]
  | cons x l ih =>
    unfold ins
    split
    · simp
    · split
      · simp
      · simp only [List.length_cons]; omega
theorem both_len : ∀ (b a : List S), (both a b).length ≤ a.length + b.length
  | [], a => by simp [both]
  | x :: b, a => by
    have h1 := both_len b (ins x a)
    have h2 := ins_len x a
    unfold both at *
    rw [List.foldl_cons, List.length_cons]
    omega
theorem fold_len (sw : Int) (y : T) (w : Nat) (hw : ∀ s, (runs sw y s).length ≤ w) : ∀ (out a : List S), (out.foldl (fun next t => both next (runs sw y t)) a).length ≤ a.length + out.length * w
  | [], a => by simp
  | x :: out, a => by
    have h1 := fold_len sw y w hw out (both a (runs sw y x))
    have h2 := both_len (runs sw y x) a
    have h3 := hw x
    rw [List.foldl_cons, List.length_cons, Nat.succ_mul]
    omega
theorem wide_pos : ∀ (n : Nat) (x : T), tot x ≤ n → fits x = true → 1 ≤ wide x
  | 0, x, hn, _ => absurd (tot_pos x) (by omega)
  | n + 1, ⟨k, p, f, v, l⟩, hn, h => by
    obtain ⟨hsh, hfl⟩ := fits_iff.1 h
    have ih : ∀ y ∈ l, 1 ≤ wide y := fun y hy => wide_pos n y (by have := tot_lt (k := k) (q := p) (f := f) (v := v) hy; omega) (hfl y hy)
    have hS : ∀ (l : List T) (m : Nat), 1 ≤ m → (∀ y ∈ l, 1 ≤ wide y) → 1 ≤ wideS m l := fun l => by
      induction l with
      | nil => intro m hm _; exact hm
      | cons y l ihl =>
        intro m hm hy
        rw [wideS]
        refine ihl _ ?_ fun z hz => hy z (by simp [hz])
        have := Nat.mul_le_mul hm (hy y (by simp))
        omega
    have hU : ∀ (l : List T) (m : Nat), (l ≠ [] ∨ 1 ≤ m) → (∀ y ∈ l, 1 ≤ wide y) → 1 ≤ wideU m l := fun l => by
      induction l with
      | nil => intro m hm _; exact hm.resolve_left fun h => h rfl
      | cons y l ihl =>
        intro m hm hy
        rw [wideU]
        refine ihl _ (.inr ?_) fun z hz => hy z (by simp [hz])
        have := hy y (by simp)
        omega
    rw [wide_mk]
    rcases hsh with ⟨rfl, _, _, hl⟩ | ⟨rfl, _, _, _, hl⟩ | ⟨rfl | rfl, _, _, hl1, hl2⟩ | ⟨rfl, _, _, hl⟩
    · simp
    · simp
    · simp; exact hS l 1 (Nat.le_refl _) ih
    · simp; exact hU l 0 (.inl fun e => by rw [e] at hl1; simp at hl1) ih
    · simp
      match l, hl with
      | [a, b], _ =>
        have h1 := ih a (by simp)
        have h2 := (wideI_ge [a, b] 0).2 a (by simp)
        omega
theorem wideS_ge {l : List T} (hw : ∀ y ∈ l, 1 ≤ wide y) : ∀ m, 1000 ≤ m → 1000 ≤ wideS m l := by
  induction l with
  | nil => intro m hm; exact hm
  | cons y l ih =>
    intro m hm
    rw [wideS]
    refine ih (fun z hz => hw z (by simp [hz])) _ ?_
    have := Nat.mul_le_mul hm (hw y (by simp))
    omega
theorem wideU_ge {l : List T} : ∀ m, 1000 ≤ m → 1000 ≤ wideU m l := by
  induction l with
  | nil => intro m hm; exact hm
  | cons y l ih =>
    intro m hm
    rw [wideU]
    exact ih _ (by omega)
theorem runsQ_len (sw : Int) : ∀ (l : List T) (out : List S) (m : Nat), (∀ y ∈ l, ∀ s, wide y < 1000 → (runs sw y s).length ≤ wide y) → (∀ y ∈ l, 1 ≤ wide y) → 1 ≤ m → out.length ≤ m → wideS m l < 1000 → (runsQ sw l out).length ≤ wideS m l
  | [], out, m, _, _, _, ho, _ => by rw [runsQ, wideS]; exact ho
  | y :: l, out, m, hy, hp, hm, ho, hw => by
    rw [wideS] at hw ⊢
    rw [runsQ]
    have hlt : m * wide y < 1000 := Classical.byContradiction fun hn => by
      have := wideS_ge (l := l) (fun z hz => hp z (by simp [hz])) (min (m * wide y) 1000) (by omega)
      omega
    have hyl : wide y < 1000 := Nat.lt_of_le_of_lt (Nat.le_mul_of_pos_left _ hm) hlt
    have hmin : min (m * wide y) 1000 = m * wide y := by omega
    rw [hmin] at hw ⊢
    refine runsQ_len sw l _ _ (fun z hz => hy z (by simp [hz])) (fun z hz => hp z (by simp [hz])) (Nat.mul_le_mul hm (hp y (by simp))) ?_ hw
    have := fold_len sw y (wide y) (fun s => hy y (by simp) s hyl) out []
    have h2 := Nat.mul_le_mul_right (wide y) ho
    simp only [List.length_nil, Nat.zero_add] at this
    omega
theorem runsU_len (sw : Int) (s : S) : ∀ (l : List T) (out : List S) (m : Nat), (∀ y ∈ l, wide y < 1000 → (runs sw y s).length ≤ wide y) → out.length ≤ m → wideU m l < 1000 → (runsU sw l s out).length ≤ wideU m l
  | [], out, m, _, ho, _ => by rw [runsU, wideU]; exact ho
  | y :: l, out, m, hy, ho, hw => by
    rw [wideU] at hw ⊢
    rw [runsU]
    have hlt : m + wide y < 1000 := Classical.byContradiction fun hn => by
      have := wideU_ge (l := l) (min (m + wide y) 1000) (by omega)
      omega
    have hmin : min (m + wide y) 1000 = m + wide y := by omega
    rw [hmin] at hw ⊢
    refine runsU_len sw s l _ _ (fun z hz => hy z (by simp [hz])) ?_ hw
    have h1 := both_len (runs sw y s) out
    have h2 := hy y (by simp) (by omega)
    omega
theorem runs_len (sw : Int) : ∀ (n : Nat) (x : T), tot x ≤ n → fits x = true → ∀ s, wide x < 1000 → (runs sw x s).length ≤ wide x
  | 0, x, hn, _ => absurd (tot_pos x) (by omega)
  | n + 1, ⟨k, p, f, v, l⟩, hn, h => fun s hw => by
    obtain ⟨hsh, hfl⟩ := fits_iff.1 h
    have ih : ∀ y ∈ l, ∀ s, wide y < 1000 → (runs sw y s).length ≤ wide y := fun y hy => runs_len sw n y (by have := tot_lt (k := k) (q := p) (f := f) (v := v) hy; omega) (hfl y hy)
    have hp : ∀ y ∈ l, 1 ≤ wide y := fun y hy => wide_pos _ y (Nat.le_refl _) (hfl y hy)
    rw [wide_mk] at hw ⊢
    rw [runs_mk]
    rcases hsh with ⟨rfl, _, _, hl⟩ | ⟨rfl, _, _, _, hl⟩ | ⟨rfl | rfl, _, _, hl1, hl2⟩ | ⟨rfl, _, _, hl⟩
    · simp
      split <;> simp
    · simp
    · simp at hw ⊢
      exact runsQ_len sw l [s] 1 ih hp (Nat.le_refl _) (by simp) hw
    · simp at hw ⊢
      exact runsU_len sw s l [] 0 (fun y hy => ih y hy s) (by simp) hw
    · simp at hw ⊢
      match l, hl with
      | [a, b], _ =>
        have h1 := (wideI_ge [a, b] 0).2 a (by simp)
        have h2 := (wideI_ge [a, b] 0).2 b (by simp)
        split
        · rw [runsA]; exact Nat.le_trans (ih a (by simp) s (by omega)) h1
        · rw [runsB, runsA]; exact Nat.le_trans (ih b (by simp) s (by omega)) h2
theorem runs_64 (sw : Int) (x : T) (h : right x = true) (s : S) : (runs sw x s).length ≤ 64 := by
  have hf := right_fits' h
  unfold right at h
  simp only [Bool.and_eq_true, decide_eq_true_eq] at h
  exact Nat.le_trans (runs_len sw _ x (Nat.le_refl _) hf s (by omega)) h.2.2.2
/-! ### At a switch -/
theorem cut_at (sw other : Int) (s : S) (p : Pd.T) (h : Pd.fits p = true) : Pd.hits (s.at_ other) (Pd.cut sw p) = Pd.hits (s.at_ sw) p := by
  have h1 := Pd.cut_hits (s.at_ sw) p h
  have h2 := Pd.hits_shut (s.at_ other) (Pd.cut sw p) (Pd.cut_vals sw p h)
  rw [← h2, ← h1]
  rfl
theorem runsQ_map (sw other : Int) (l : List T) (h : ∀ y ∈ l, ∀ s, runs other (spec sw y) s = runs sw y s) : ∀ out, runsQ other (l.map (spec sw)) out = runsQ sw l out := by
  induction l with
  | nil => intro out; simp [runsQ]
  | cons y l ih =>
    intro out
    rw [List.map_cons, runsQ, runsQ, ih fun z hz => h z (by simp [hz])]
    congr 1
    congr 1
    funext next t
    rw [h y (by simp)]
theorem runsU_map (sw other : Int) (s : S) (l : List T) (h : ∀ y ∈ l, ∀ s, runs other (spec sw y) s = runs sw y s) : ∀ out, runsU other (l.map (spec sw)) s out = runsU sw l s out := by
  induction l with
  | nil => intro out; simp [runsU]
  | cons y l ih =>
    intro out
    rw [List.map_cons, runsU, runsU, ih fun z hz => h z (by simp [hz]), h y (by simp)]
theorem spec_runs (sw other : Int) : ∀ (n : Nat) (x : T), tot x ≤ n → fits x = true → ∀ s, runs other (spec sw x) s = runs sw x s
  | 0, x, hn, _ => absurd (tot_pos x) (by omega)
  | n + 1, ⟨k, p, f, v, l⟩, hn, h => fun s => by
    obtain ⟨hsh, hfl⟩ := fits_iff.1 h
    have ih : ∀ y ∈ l, ∀ s, runs other (spec sw y) s = runs sw y s := fun y hy => spec_runs sw other n y (by have := tot_lt (k := k) (q := p) (f := f) (v := v) hy; omega) (hfl y hy)
    rw [spec_mk]
    rcases hsh with ⟨rfl, hr, ⟨rfl, rfl⟩, hl⟩ | ⟨rfl, rfl, hf1, hv1, hl⟩ | ⟨hk, rfl, ⟨rfl, rfl⟩, hl1, hl2⟩ | ⟨rfl, hr, ⟨rfl, rfl⟩, hl⟩
    · rw [if_neg (by omega), if_pos (.inl rfl), runs_mk, runs_mk, cut_at sw other s p (right_fits hr)]
      simp
    · rw [if_neg (by omega), if_neg (by omega), runs_mk, runs_mk]
      simp
    · rw [if_neg (by omega), if_neg (by omega), runs_mk, runs_mk]
      rcases hk with rfl | rfl
      · simp only [show ¬ (3 : Int) = 1 by decide, show ¬ (3 : Int) = 2 by decide, if_false, if_true]
        exact runsQ_map sw other l ih _
      · simp only [show ¬ (4 : Int) = 1 by decide, show ¬ (4 : Int) = 2 by decide, show ¬ (4 : Int) = 3 by decide, if_false, if_true]
        exact runsU_map sw other s l ih _
    · have hpf := right_fits hr
      have hc := cut_at sw other s p hpf
      have hk := Pd.fits_k (Pd.cut_fits sw p hpf)
      match l, hl with
      | [a, b], _ =>
      have ha := ih a (by simp) s
      have hb := ih b (by simp) s
      have hR : runs sw (.mk 5 p 0 0 [a, b]) s = if Pd.hits (s.at_ sw) p = true then runs sw a s else runs sw b s := by
        rw [runs_mk, runsA, runsB, runsA]; simp
      rw [hR]
      by_cases h2 : (Pd.cut sw p).k ≤ 2
      · rw [if_pos ⟨rfl, h2⟩]
        have hh := Pd.hits_12 (s.at_ other) (y := Pd.cut sw p) (by omega)
        rw [hc] at hh
        by_cases h1 : (Pd.cut sw p).k = 1
        · rw [h1] at hh ⊢
          rw [hh]
          exact ha
        · rw [decide_eq_false h1] at hh
          rw [show (Pd.cut sw p).k = 2 by omega, hh]
          exact hb
      · rw [if_neg (fun h => h2 h.2), if_pos (.inr rfl), runs_mk, hc]
        simp only [show ¬ (5 : Int) = 1 by decide, show ¬ (5 : Int) = 2 by decide, show ¬ (5 : Int) = 3 by decide, show ¬ (5 : Int) = 4 by decide, if_false, if_true, List.map_cons, List.map_nil, runsA, runsB, ha, hb]
end Po
end Go.Proofs.YtaolcaggdddkpaaGreat
namespace Go.Proofs.YtaolcaggdddkpaaGreat
open Go.Sx
set_option maxRecDepth 20000
set_option linter.unusedVariables false
namespace Tr
open Po (S)
/-- A case: what is known, what comes. -/
structure C where
  s : S
  out : List S
deriving DecidableEq
def gt (f : Int) (s : S) : Int := if f = 4 then s.port else if f = 0 then s.p0 else if f = 1 then s.p1 else if f = 2 then s.p2 else s.p3
def withK (f v : Int) (s : S) : S := if f = 4 then { s with port := v } else if f = 0 then { s with p0 := v } else if f = 1 then { s with p1 := v } else if f = 2 then { s with p2 := v } else { s with p3 := v }
abbrev ok (f : Int) : Prop := 0 ≤ f ∧ f ≤ 4
theorem gt_same (f v : Int) (s : S) : gt f (withK f v s) = v := by
  unfold gt withK
  by_cases h4 : f = 4
  · simp [h4]
  by_cases h0 : f = 0
  · simp [h0]
  by_cases h1 : f = 1
  · simp [h1]
  by_cases h2 : f = 2
  · simp [h2]
  · simp [h4, h0, h1, h2]
theorem gt_other {f g : Int} (v : Int) (s : S) (hf : ok f) (hg : ok g) (h : g ≠ f) : gt g (withK f v s) = gt g s := by
  have h1 : f = 0 ∨ f = 1 ∨ f = 2 ∨ f = 3 ∨ f = 4 := by omega
  have h2 : g = 0 ∨ g = 1 ∨ g = 2 ∨ g = 3 ∨ g = 4 := by omega
  rcases h1 with rfl | rfl | rfl | rfl | rfl <;> rcases h2 with rfl | rfl | rfl | rfl | rfl <;> first | exact absurd rfl h | rfl
theorem S_ext {a b : S} (h : ∀ f, ok f → gt f a = gt f b) : a = b := by
  have h0 := h 0 (by decide)
  have h1 := h 1 (by decide)
  have h2 := h 2 (by decide)
  have h3 := h 3 (by decide)
  have h4 := h 4 (by decide)
  obtain ⟨a0, a1, a2, a3, a4⟩ := a
  obtain ⟨b0, b1, b2, b3, b4⟩ := b
  simp only [gt] at h0 h1 h2 h3 h4
  simp at h0 h1 h2 h3 h4
  simp only [S.mk.injEq]
  exact ⟨h4, h0, h1, h2, h3⟩
def came (n k : Int) : Int := if n = k then -1 else n
def cameS (s t : S) : S := ⟨t.port, came t.p0 s.p0, came t.p1 s.p1, came t.p2 s.p2, came t.p3 s.p3⟩
def outs (sw : Int) (y : Po.T) (s : S) : List S := Po.both [] ((Po.runs sw y s).map (cameS s))
def free (f : Int) (c : C) : C := ⟨withK f (-1) c.s, c.out⟩
def alike (f : Int) (a b : List C) : Bool := decide (a.map (free f) = b.map (free f))
def some_ (f : Int) (other l : List C) : List C := if alike f l other = true then [] else l
def cases (sw : Int) (y : Po.T) : List Int → S → List C
  | [], s => [⟨s, outs sw y s⟩]
  | f :: rest, s => ((Po.values f y).flatMap fun v => some_ f (cases sw y rest s) (cases sw y rest (withK f v s))) ++ cases sw y rest s
def order : List Int := [4, 0, 1, 2, 3]
def start : S := ⟨-1, -1, -1, -1, -1⟩
def all (sw : Int) (x : Po.T) : List C := cases sw (Po.spec sw x) order start
/-! ### How many there are -/
def cnt (y : Po.T) : List Int → Nat
  | [] => 1
  | f :: rest => ((Po.values f y).length + 1) * cnt y rest
theorem some_len (f : Int) (o l : List C) : (some_ f o l).length ≤ l.length := by
  unfold some_; split <;> simp
theorem flat_len {α β : Type} (g : α → List β) (n : Nat) : ∀ l : List α, (∀ x ∈ l, (g x).length ≤ n) → (l.flatMap g).length ≤ l.length * n
  | [], _ => by simp
  | x :: l, h => by
    have h1 := flat_len g n l fun y hy => h y (by simp [hy])
    have h2 := h x (by simp)
    rw [List.flatMap_cons, List.length_append, List.length_cons, Nat.succ_mul]
    omega
theorem cases_len (sw : Int) (y : Po.T) : ∀ (fs : List Int) (s : S), (cases sw y fs s).length ≤ cnt y fs
  | [], s => by simp [cases, cnt]
  | f :: rest, s => by
    rw [cases, cnt, List.length_append, Nat.succ_mul]
    have h1 := flat_len (fun v => some_ f (cases sw y rest s) (cases sw y rest (withK f v s))) (cnt y rest) (Po.values f y) fun v _ => Nat.le_trans (some_len _ _ _) (cases_len sw y rest _)
    have h2 := cases_len sw y rest s
    omega
theorem cnt_pos (y : Po.T) : ∀ fs : List Int, 1 ≤ cnt y fs
  | [] => Nat.le_refl _
  | f :: rest => by
    have := cnt_pos y rest
    rw [cnt]
    exact Nat.mul_pos (Nat.succ_pos _) this
theorem cases_ne (sw : Int) (y : Po.T) (fs : List Int) (s : S) : 1 ≤ (cases sw y fs s).length := by
  cases fs with
  | nil => simp [cases]
  | cons f rest => have := cases_ne sw y rest s; rw [cases, List.length_append]; omega
/-! ### The last one -/
theorem cases_last (sw : Int) (y : Po.T) (s : S) : ∀ (fs : List Int), ∃ l, cases sw y fs s = l ++ [⟨s, outs sw y s⟩]
  | [] => ⟨[], by rw [cases]; rfl⟩
  | f :: rest => by
    obtain ⟨l, hl⟩ := cases_last sw y s rest
    rw [cases, hl]
    exact ⟨_, (List.append_assoc ..).symm⟩
/-! ### What is known of each -/
theorem mem_cases {sw : Int} {y : Po.T} {f : Int} {rest : List Int} {s : S} {c : C} (h : c ∈ cases sw y (f :: rest) s) : (∃ v ∈ Po.values f y, c ∈ cases sw y rest (withK f v s)) ∨ c ∈ cases sw y rest s := by
  rw [cases, List.mem_append, List.mem_flatMap] at h
  rcases h with ⟨v, hv, h⟩ | h
  · unfold some_ at h
    split at h
    · cases h
    · exact .inl ⟨v, hv, h⟩
  · exact .inr h
theorem cases_keep (sw : Int) (y : Po.T) (g : Int) (hg : ok g) : ∀ (fs : List Int) (s : S), (∀ f ∈ fs, ok f) → g ∉ fs → ∀ c ∈ cases sw y fs s, gt g c.s = gt g s
  | [], s, _, _, c, h => by rw [cases, List.mem_singleton] at h; rw [h]
  | f :: rest, s, hf, hn, c, h => by
    have ih := fun s => cases_keep sw y g hg rest s (fun f h => hf f (by simp [h])) (fun h => hn (by simp [h]))
    rcases mem_cases h with ⟨v, _, h⟩ | h
    · rw [ih _ c h, gt_other v s (hf f (by simp)) hg (fun e => hn (by simp [e]))]
    · exact ih _ c h
theorem cases_distinct (sw : Int) (y : Po.T) (hy : ∀ f, ∀ v ∈ Po.values f y, 0 ≤ v) : ∀ (fs : List Int) (s : S), (∀ f ∈ fs, ok f) → fs.Nodup → (∀ f ∈ fs, gt f s = -1) → (cases sw y fs s).Pairwise fun c d => c.s ≠ d.s
  | [], s, _, _, _ => by rw [cases]; simp
  | f :: rest, s, hf, hn, hs => by
    rw [List.nodup_cons] at hn
    have hfo := hf f (by simp)
    have hfr : ∀ g ∈ rest, ok g := fun g h => hf g (by simp [h])
    have hw : ∀ v, ∀ g ∈ rest, gt g (withK f v s) = -1 := fun v g hg => by
      rw [gt_other v s hfo (hfr g hg) (fun e => hn.1 (by rw [← e]; exact hg))]
      exact hs g (by simp [hg])
    have ih := fun s h => cases_distinct sw y hy rest s hfr hn.2 h
    have hk := fun s => cases_keep sw y f hfo rest s hfr hn.1
    rw [cases]
    refine List.pairwise_append.2 ⟨?_, ih s fun g hg => hs g (by simp [hg]), ?_⟩
    · have hr := Po.values_rising f y
      generalize Po.values f y = vs at hr
      induction vs with
      | nil => simp
      | cons v vs ihv =>
        rw [List.pairwise_cons] at hr
        rw [List.flatMap_cons]
        refine List.pairwise_append.2 ⟨?_, ihv hr.2, ?_⟩
        · unfold some_
          split
          · exact List.Pairwise.nil
          · exact ih _ (hw v)
        · intro c hc d hd e
          unfold some_ at hc
          split at hc
          · cases hc
          · obtain ⟨u, hu, hd⟩ := List.mem_flatMap.1 hd
            unfold some_ at hd
            split at hd
            · cases hd
            · have h1 := hk _ c hc
              have h2 := hk _ d hd
              rw [gt_same] at h1 h2
              rw [e, h2] at h1
              have := hr.1 u hu
              omega
    · intro c hc d hd e
      obtain ⟨v, hv, hc⟩ := List.mem_flatMap.1 hc
      unfold some_ at hc
      split at hc
      · cases hc
      · have h1 := hk _ c hc
        have h2 := hk _ d hd
        rw [gt_same] at h1
        rw [hs f (by simp)] at h2
        rw [e, h2] at h1
        have := hy f v hv
        omega
theorem outs_rising (sw : Int) (y : Po.T) (s : S) : Po.Rising (outs sw y s) := Po.both_rising _ List.Pairwise.nil
theorem cases_rising (sw : Int) (y : Po.T) : ∀ (fs : List Int) (s : S), ∀ c ∈ cases sw y fs s, Po.Rising c.out
  | [], s, c, h => by rw [cases, List.mem_singleton] at h; rw [h]; exact outs_rising sw y s
  | f :: rest, s, c, h => by
    rcases mem_cases h with ⟨v, _, h⟩ | h
    · exact cases_rising sw y rest _ c h
    · exact cases_rising sw y rest _ c h
theorem outs_len (sw : Int) (y : Po.T) (s : S) : (outs sw y s).length ≤ (Po.runs sw y s).length := by
  have := Po.both_len ((Po.runs sw y s).map (cameS s)) []
  unfold outs
  simpa using this
theorem cases_out_len (sw : Int) (y : Po.T) (n : Nat) (hn : ∀ s, (Po.runs sw y s).length ≤ n) : ∀ (fs : List Int) (s : S), ∀ c ∈ cases sw y fs s, c.out.length ≤ n
  | [], s, c, h => by rw [cases, List.mem_singleton] at h; rw [h]; exact Nat.le_trans (outs_len sw y s) (hn s)
  | f :: rest, s, c, h => by
    rcases mem_cases h with ⟨v, _, h⟩ | h
    · exact cases_out_len sw y n hn rest _ c h
    · exact cases_out_len sw y n hn rest _ c h
/-! ### Which one is found -/
def hit (t : S) (c : C) : Bool := decide (∀ f ∈ order, gt f c.s = -1 ∨ gt f c.s = gt f t)
theorem mem_order {f : Int} : f ∈ order ↔ ok f := by
  simp only [order, List.mem_cons, List.not_mem_nil, or_false]
  omega
/-- What is known of a packet, of the fields of a list. -/
def kn (y : Po.T) (t : S) : List Int → S → S
  | [], s => s
  | f :: rest, s => kn y t rest (if gt f t ∈ Po.values f y then withK f (gt f t) s else s)
theorem find_map {α β : Type} (p : α → Bool) (g : α → β) : ∀ (a b : List α), a.map g = b.map g → (∀ x ∈ a, ∀ z ∈ b, g x = g z → p x = p z) → ∀ x, a.find? p = some x → ∃ z, b.find? p = some z ∧ g x = g z
  | [], b, h, hp, x, hx => by simp at hx
  | u :: a, [], h, hp, x, hx => by simp at h
  | u :: a, v :: b, h, hp, x, hx => by
    simp only [List.map_cons, List.cons.injEq] at h
    have e := hp u (by simp) v (by simp) h.1
    rw [List.find?_cons] at hx ⊢
    cases hu : p u with
    | true =>
      rw [hu] at hx
      rw [← e, hu]
      injection hx with hx
      subst hx
      exact ⟨v, rfl, h.1⟩
    | false =>
      rw [hu] at hx
      rw [← e, hu]
      exact find_map p g a b h.2 (fun x hx z hz => hp x (by simp [hx]) z (by simp [hz])) x hx
theorem find_none {α : Type} {p : α → Bool} {a b : List α} (h : ∀ x ∈ a, p x = false) : (a ++ b).find? p = b.find? p := by
  rw [List.find?_append, List.find?_eq_none.2 (fun x hx => by rw [h x hx]; simp)]
  rfl
theorem find_some {α : Type} {p : α → Bool} {a b : List α} {x : α} (h : a.find? p = some x) : (a ++ b).find? p = some x := by
  rw [List.find?_append, h]; rfl
/-- The first case that is so of a packet has what comes of what is known of the packet. -/
theorem cases_find (sw : Int) (y : Po.T) (t : S) (hy : ∀ f, ∀ v ∈ Po.values f y, 0 ≤ v) : ∀ (fs : List Int) (s : S), (∀ f ∈ fs, ok f) → fs.Nodup → (∀ f, ok f → gt f s = -1 ∨ gt f s = gt f t) → (∀ f ∈ fs, gt f s = -1) → ∃ c, (cases sw y fs s).find? (hit t) = some c ∧ c.out = outs sw y (kn y t fs s)
  | [], s, _, _, hs, _ => by
    refine ⟨⟨s, outs sw y s⟩, ?_, rfl⟩
    rw [cases, List.find?_cons, show hit t ⟨s, outs sw y s⟩ = true from decide_eq_true fun f hf => hs f (mem_order.1 hf)]
  | f :: rest, s, hf, hn, hs, h1 => by
    rw [List.nodup_cons] at hn
    have hfo := hf f (by simp)
    have hfr : ∀ g ∈ rest, ok g := fun g h => hf g (by simp [h])
    have hw : ∀ v, ∀ g ∈ rest, gt g (withK f v s) = -1 := fun v g hg => by
      rw [gt_other v s hfo (hfr g hg) (fun e => hn.1 (by rw [← e]; exact hg))]
      exact h1 g (by simp [hg])
    have ih := fun s => cases_find sw y t hy rest s hfr hn.2
    have hk := fun s => cases_keep sw y f hfo rest s hfr hn.1
    have hno : ∀ v ∈ Po.values f y, v ≠ gt f t → ∀ c ∈ some_ f (cases sw y rest s) (cases sw y rest (withK f v s)), hit t c = false := fun v hv hne c hc => by
      unfold some_ at hc
      split at hc
      · cases hc
      · have h2 := hk _ c hc
        rw [gt_same] at h2
        refine decide_eq_false fun h => ?_
        have h3 := h f (mem_order.2 hfo)
        rw [h2] at h3
        have := hy f v hv
        rcases h3 with h3 | h3
        · omega
        · exact hne h3
    obtain ⟨c0, hc0, ho0⟩ := ih s hs fun g hg => h1 g (by simp [hg])
    rw [cases, kn]
    by_cases hin : gt f t ∈ Po.values f y
    · rw [if_pos hin]
      obtain ⟨c1, hc1, ho1⟩ := ih (withK f (gt f t) s) (fun g hg => by
        by_cases e : g = f
        · subst e; exact .inr (gt_same ..)
        · rw [gt_other _ s hfo hg e]; exact hs g hg) (hw _)
      have hr := Po.values_rising f y
      obtain ⟨pre, post, e⟩ := List.append_of_mem hin
      rw [e] at hr hno ⊢
      have hr2 := (List.pairwise_append.1 hr)
      rw [List.flatMap_append, List.flatMap_cons, List.append_assoc, find_none (fun c hc => by
        obtain ⟨v, hv, hc⟩ := List.mem_flatMap.1 hc
        have := hr2.2.2 v hv (gt f t) (by simp)
        exact hno v (by simp [hv]) (by omega) c hc)]
      by_cases ha : alike f (cases sw y rest (withK f (gt f t) s)) (cases sw y rest s) = true
      · rw [some_, if_pos ha, List.nil_append, find_none (fun c hc => by
          obtain ⟨v, hv, hc⟩ := List.mem_flatMap.1 hc
          have := (List.pairwise_cons.1 hr2.2.1).1 v hv
          exact hno v (by simp [hv]) (by omega) c hc)]
        obtain ⟨z, hz, he⟩ := find_map (hit t) (free f) _ _ (of_decide_eq_true ha) (fun c hc d hd e => by
          have e2 : ∀ g, ok g → g ≠ f → gt g c.s = gt g d.s := fun g hg hne => by
            rw [← gt_other (-1) c.s hfo hg hne, ← gt_other (-1) d.s hfo hg hne]
            have : withK f (-1) c.s = withK f (-1) d.s := congrArg C.s e
            rw [this]
          have e3 := hk _ c hc
          have e4 := hk _ d hd
          rw [gt_same] at e3
          rw [h1 f (by simp)] at e4
          unfold hit
          refine decide_eq_decide.2 ⟨fun h g hg => ?_, fun h g hg => ?_⟩
          · by_cases e : g = f
            · subst e; exact .inl e4
            · rw [← e2 g (mem_order.1 hg) e]; exact h g hg
          · by_cases e : g = f
            · subst e; exact .inr e3
            · rw [e2 g (mem_order.1 hg) e]; exact h g hg) c1 hc1
        refine ⟨z, hz, ?_⟩
        have : (free f c1).out = (free f z).out := by rw [he]
        exact this.symm.trans ho1
      · rw [some_, if_neg ha, List.append_assoc]
        exact ⟨c1, find_some hc1, ho1⟩
    · rw [if_neg hin]
      rw [find_none (fun c hc => by
        obtain ⟨v, hv, hc⟩ := List.mem_flatMap.1 hc
        exact hno v hv (fun e => hin (by rw [← e]; exact hv)) c hc)]
      exact ⟨c0, hc0, ho0⟩
end Tr
end Go.Proofs.YtaolcaggdddkpaaGreat
