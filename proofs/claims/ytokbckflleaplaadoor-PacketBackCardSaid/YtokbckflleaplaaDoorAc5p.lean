/-
  Acts: what they send; those that nobody sees. Plain laws.
-/
import Derived.Test.YtokbckflleaplaaDoorAc1
namespace Go.Proofs.YtokbckflleaplaaDoor
open Go.Sx
set_option linter.unusedVariables false
namespace Ac
/-- A packet's numbers. -/
structure P4 where
  a : Int
  b : Int
  c : Int
  d : Int
deriving DecidableEq
def P4.av (p : P4) : List AV := [.int .i64 p.a, .int .i64 p.b, .int .i64 p.c, .int .i64 p.d]
def P4.get (p : P4) (f : Int) : Int := if f = 0 then p.a else if f = 1 then p.b else if f = 2 then p.c else p.d
def P4.set (p : P4) (f v : Int) : P4 := if f = 0 then { p with a := v } else if f = 1 then { p with b := v } else if f = 2 then { p with c := v } else { p with d := v }
theorem P4.ext4 {p q : P4} (h0 : p.get 0 = q.get 0) (h1 : p.get 1 = q.get 1) (h2 : p.get 2 = q.get 2) (h3 : p.get 3 = q.get 3) : p = q := by
  obtain ⟨a, b, c, d⟩ := p
  obtain ⟨a', b', c', d'⟩ := q
  simp [P4.get] at h0 h1 h2 h3
  subst h0; subst h1; subst h2; subst h3; rfl
def valid (f v : Int) : Prop := 0 ≤ f ∧ f < 4 ∧ 0 ≤ v ∧ v ≤ Mt.top f
instance (f v : Int) : Decidable (valid f v) := by unfold valid; infer_instance
def withF (p : P4) (f v : Int) : P4 := if valid f v then p.set f v else p
structure S where
  port : Int
  p : P4
deriving DecidableEq
def S.av (s : S) : List AV := [.int .i64 s.port, .int .i64 s.p.a, .int .i64 s.p.b, .int .i64 s.p.c, .int .i64 s.p.d]
def sentV (s : S) : List Value := [.int .i64 s.port, .int .i64 s.p.a, .int .i64 s.p.b, .int .i64 s.p.c, .int .i64 s.p.d]
/-- One act. -/
def step (came : P4) (s : P4 × List S) (x : A) : P4 × List S :=
  if x.k = 3 then (came, s.2) else if x.k = 1 then (withF s.1 x.f x.v, s.2) else if x.k = 2 then (s.1, s.2 ++ [⟨x.v, s.1⟩]) else s
def st (came : P4) (l : List A) : P4 × List S := l.foldl (step came) (came, [])
def run (came : P4) (l : List A) : List S := (st came l).2
theorem st_next {came : P4} {l : List A} {k : Nat} {x : A} (h : l[k]? = some x) : st came (l.take (k + 1)) = step came (st came (l.take k)) x := by
  unfold st
  rw [List.take_add_one, h, List.foldl_append]
  rfl
theorem step_len (came : P4) (s : P4 × List S) (x : A) : (step came s x).2.length ≤ s.2.length + 1 := by
  unfold step
  split
  · simp
  · split
    · simp
    · split <;> simp
theorem foldl_len (came : P4) : ∀ (l : List A) (s : P4 × List S), (l.foldl (step came) s).2.length ≤ s.2.length + l.length
  | [], s => by simp
  | x :: l, s => by
    have h1 := foldl_len came l (step came s x)
    have h2 := step_len came s x
    simp only [List.foldl_cons, List.length_cons]
    omega
theorem st_len (came : P4) (l : List A) : (st came l).2.length ≤ l.length := by
  have := foldl_len came l (came, [])
  simpa [st] using this
theorem step_3 {c p : P4} {o : List S} {x : A} (h : x.k = 3) : step c (p, o) x = (c, o) := by unfold step; rw [if_pos h]
theorem step_1 {c p : P4} {o : List S} {x : A} (h : x.k = 1) : step c (p, o) x = (withF p x.f x.v, o) := by unfold step; rw [if_neg (by omega), if_pos h]
theorem step_2 {c p : P4} {o : List S} {x : A} (h : x.k = 2) : step c (p, o) x = (p, o ++ [⟨x.v, p⟩]) := by unfold step; rw [if_neg (by omega), if_neg (by omega), if_pos h]
theorem step_0 {c p : P4} {o : List S} {x : A} (h1 : x.k ≠ 1) (h2 : x.k ≠ 2) (h3 : x.k ≠ 3) : step c (p, o) x = (p, o) := by unfold step; rw [if_neg h3, if_neg h1, if_neg h2]
/-- What is sent lies behind what was sent. -/
theorem foldl_out (came : P4) : ∀ (l : List A) (p : P4) (o : List S), (l.foldl (step came) (p, o)).2 = o ++ (l.foldl (step came) (p, [])).2 ∧ (l.foldl (step came) (p, o)).1 = (l.foldl (step came) (p, [])).1
  | [], p, o => by simp
  | x :: l, p, o => by
    rw [List.foldl_cons, List.foldl_cons]
    by_cases h3 : x.k = 3
    · rw [step_3 h3, step_3 h3]
      exact foldl_out came l came o
    · by_cases h1 : x.k = 1
      · rw [step_1 h1, step_1 h1]
        exact foldl_out came l _ o
      · by_cases h2 : x.k = 2
        · rw [step_2 h2, step_2 h2]
          obtain ⟨e1, e2⟩ := foldl_out came l p (o ++ [⟨x.v, p⟩])
          obtain ⟨e3, e4⟩ := foldl_out came l p ([] ++ [⟨x.v, p⟩])
          exact ⟨by rw [e1, e3]; simp, by rw [e2, e4]⟩
        · rw [step_0 h1 h2 h3, step_0 h1 h2 h3]
          exact foldl_out came l p o
/-- Without Back nobody asks how the packet came. -/
theorem foldl_came {l : List A} (hb : ∀ x ∈ l, x.k ≠ 3) (c c' : P4) : ∀ s, l.foldl (step c) s = l.foldl (step c') s := by
  induction l with
  | nil => intro s; rfl
  | cons x l ih =>
    intro s
    have h3 : x.k ≠ 3 := hb x (List.mem_cons_self ..)
    have e : step c s x = step c' s x := by unfold step; rw [if_neg h3, if_neg h3]
    rw [List.foldl_cons, List.foldl_cons, e, ih fun y hy => hb y (List.mem_cons_of_mem _ hy)]
theorem run_mark (p : P4) (a : List A) (v : Int) : run p (a ++ [⟨2, 0, v⟩]) = run p a ++ [⟨v, (st p a).1⟩] := by
  unfold run st
  rw [List.foldl_append]
  rfl
theorem run_join (p : P4) (a b : List A) (hb : ∀ x ∈ b, x.k ≠ 3) : run p (a ++ b) = run p a ++ run (st p a).1 b := by
  unfold run st
  rw [List.foldl_append]
  generalize a.foldl (step p) (p, []) = s
  obtain ⟨q, o⟩ := s
  rw [(foldl_out p b q o).1, foldl_came hb p q]
/-! ### Those that nobody sees -/
def unseen (f : Int) : List A → Bool
  | [] => true
  | x :: l => if x.k = 2 then false else if x.k = 3 ∨ (x.k = 1 ∧ x.f = f) then true else unseen f l
theorem unseen_cons (f : Int) (x : A) (l : List A) : unseen f (x :: l) = if x.k = 2 then false else if x.k = 3 ∨ (x.k = 1 ∧ x.f = f) then true else unseen f l := rfl
def gone (x : A) (l : List A) : Prop := x.k = 1 ∧ 0 ≤ x.f ∧ x.f < 4 ∧ unseen x.f l = true
instance (x : A) (l : List A) : Decidable (gone x l) := by unfold gone; infer_instance
def fold : List A → List A
  | [] => []
  | x :: l => if gone x l then fold l else x :: fold l
theorem fold_len : ∀ l, (fold l).length ≤ l.length
  | [] => Nat.le_refl _
  | x :: l => by
    have := fold_len l
    unfold fold
    split <;> simp <;> omega
theorem fold_mem : ∀ {l : List A} {x : A}, x ∈ fold l → x ∈ l
  | [], x, h => h
  | y :: l, x, h => by
    unfold fold at h
    split at h
    · exact List.mem_cons_of_mem _ (fold_mem h)
    · rcases List.mem_cons.1 h with rfl | h
      · exact List.mem_cons_self ..
      · exact List.mem_cons_of_mem _ (fold_mem h)
theorem unseen_fold (f : Int) : ∀ l, unseen f (fold l) = unseen f l
  | [] => rfl
  | x :: l => by
    have ih := unseen_fold f l
    by_cases h : gone x l
    · rw [show fold (x :: l) = fold l by rw [fold, if_pos h], ih, unseen_cons]
      obtain ⟨h1, _, _, h4⟩ := h
      rw [if_neg (by omega)]
      split
      · rename_i h5
        rcases h5 with h5 | ⟨_, h5⟩
        · omega
        · rw [← h5]; exact h4
      · rfl
    · rw [show fold (x :: l) = x :: fold l by rw [fold, if_neg h], unseen_cons, unseen_cons, ih]
theorem fold_fold : ∀ l, fold (fold l) = fold l
  | [] => rfl
  | x :: l => by
    have ih := fold_fold l
    by_cases h : gone x l
    · rw [show fold (x :: l) = fold l by rw [fold, if_pos h]]; exact ih
    · rw [show fold (x :: l) = x :: fold l by rw [fold, if_neg h]]
      rw [show fold (x :: fold l) = x :: fold (fold l) by rw [fold, if_neg (fun h' => h ⟨h'.1, h'.2.1, h'.2.2.1, by rw [← unseen_fold]; exact h'.2.2.2⟩)]]
      rw [ih]
theorem fold_ok {ports : Int} {l : List A} (h : okL ports l) : okL ports (fold l) := ⟨Nat.le_trans (fold_len l) h.1, fun x hx => h.2 x (fold_mem hx)⟩
theorem get_set {p : P4} {f g v : Int} (hf : 0 ≤ f ∧ f < 4) (hg : 0 ≤ g ∧ g < 4) : (p.set f v).get g = if g = f then v else p.get g := by
  have h1 : f = 0 ∨ f = 1 ∨ f = 2 ∨ f = 3 := by omega
  have h2 : g = 0 ∨ g = 1 ∨ g = 2 ∨ g = 3 := by omega
  rcases h1 with rfl | rfl | rfl | rfl <;> rcases h2 with rfl | rfl | rfl | rfl <;> simp [P4.set, P4.get]
theorem ok1_valid {ports : Int} {x : A} (h : ok1 ports x) (h1 : x.k = 1) : valid x.f x.v := by
  rcases h with h | h | h
  · exact ⟨h.2.1, by omega, h.2.2.2.1, h.2.2.2.2⟩
  · omega
  · omega
theorem fold_run {ports : Int} (c : P4) : ∀ (l : List A), (∀ x ∈ l, ok1 ports x) → ∀ (p q : P4) (o : List S), (∀ f, 0 ≤ f → f < 4 → unseen f l = false → p.get f = q.get f) → ((fold l).foldl (step c) (q, o)).2 = (l.foldl (step c) (p, o)).2
  | [], _, p, q, o, _ => rfl
  | x :: l, hl, p, q, o, h => by
    have hx := hl x (List.mem_cons_self ..)
    have hl' : ∀ y ∈ l, ok1 ports y := fun y hy => hl y (List.mem_cons_of_mem _ hy)
    by_cases h1 : x.k = 1
    · have hv := ok1_valid hx h1
      have hw : ∀ r : P4, withF r x.f x.v = r.set x.f x.v := fun r => if_pos hv
      have hs : ∀ (r : P4) (o : List S), step c (r, o) x = (r.set x.f x.v, o) := fun r o => by
        unfold step; rw [if_neg (by omega), if_pos h1, hw]
      have hu : ∀ f, f ≠ x.f → unseen f (x :: l) = unseen f l := fun f hf => by
        rw [unseen, if_neg (by omega), if_neg (by rintro (h | h); omega; exact hf h.2.symm)]
      by_cases hg : gone x l
      · rw [fold, if_pos hg, List.foldl_cons, hs]
        refine fold_run c l hl' _ _ _ fun f h0 h4 hun => ?_
        by_cases e : f = x.f
        · subst e; rw [hg.2.2.2] at hun; cases hun
        · rw [get_set ⟨hv.1, hv.2.1⟩ ⟨h0, h4⟩, if_neg e]
          exact h f h0 h4 (by rw [hu f e]; exact hun)
      · rw [fold, if_neg hg, List.foldl_cons, List.foldl_cons, hs, hs]
        refine fold_run c l hl' _ _ _ fun f h0 h4 hun => ?_
        rw [get_set ⟨hv.1, hv.2.1⟩ ⟨h0, h4⟩, get_set ⟨hv.1, hv.2.1⟩ ⟨h0, h4⟩]
        by_cases e : f = x.f
        · rw [if_pos e, if_pos e]
        · rw [if_neg e, if_neg e]
          exact h f h0 h4 (by rw [hu f e]; exact hun)
    · have hg : ¬ gone x l := fun h => h1 h.1
      rw [fold, if_neg hg, List.foldl_cons, List.foldl_cons]
      by_cases h2 : x.k = 2
      · have hpq : p = q := by
          have hu : ∀ f, unseen f (x :: l) = false := fun f => by rw [unseen, if_pos h2]
          exact P4.ext4 (h 0 (by decide) (by decide) (hu 0)) (h 1 (by decide) (by decide) (hu 1)) (h 2 (by decide) (by decide) (hu 2)) (h 3 (by decide) (by decide) (hu 3))
        subst hpq
        have hs : step c (p, o) x = (p, o ++ [⟨x.v, p⟩]) := by unfold step; rw [if_neg (by omega), if_neg h1, if_pos h2]
        rw [hs]
        exact fold_run c l hl' _ _ _ fun f _ _ _ => rfl
      · have h3 : x.k = 3 := by
          rcases hx with h | h | h
          · exact (h1 h.1).elim
          · exact (h2 h.1).elim
          · exact h.1
        have hs : ∀ r o, step c (r, o) x = (c, o) := fun r o => by unfold step; rw [if_pos h3]
        rw [hs, hs]
        exact fold_run c l hl' _ _ _ fun f _ _ _ => rfl
theorem run_fold {ports : Int} {l : List A} (h : okL ports l) (p : P4) : run p (fold l) = run p l := fold_run p l h.2 p p [] fun _ _ _ _ => rfl
/-- From the last one to the first one: what is not seen, and what stands. -/
def back (l : List A) : (Int → Bool) × List A := (fun f => unseen f l, fold l)
/-- The first ones, seen alone of what comes behind. -/
def seenF (l : List A) (i : Nat) (f : Int) : Bool := !unseen f (l.drop (i + 1))
theorem fold_drop {l : List A} {k : Nat} {x : A} (h : l[k]? = some x) : fold (l.drop k) = if gone x (l.drop (k + 1)) then fold (l.drop (k + 1)) else x :: fold (l.drop (k + 1)) := by
  have hk : k < l.length := by
    rcases Nat.lt_or_ge k l.length with h' | h'
    · exact h'
    · rw [List.getElem?_eq_none h'] at h; cases h
  have e : l.drop k = x :: l.drop (k + 1) := by
    rw [List.drop_eq_getElem_cons hk]
    rw [List.getElem?_eq_getElem hk] at h
    injection h with h; rw [h]
  rw [e, fold]
theorem unseen_drop {l : List A} {k : Nat} {x : A} (f : Int) (h : l[k]? = some x) : unseen f (l.drop k) = if x.k = 2 then false else if x.k = 3 ∨ (x.k = 1 ∧ x.f = f) then true else unseen f (l.drop (k + 1)) := by
  have hk : k < l.length := by
    rcases Nat.lt_or_ge k l.length with h' | h'
    · exact h'
    · rw [List.getElem?_eq_none h'] at h; cases h
  have e : l.drop k = x :: l.drop (k + 1) := by
    rw [List.drop_eq_getElem_cons hk]
    rw [List.getElem?_eq_getElem hk] at h
    injection h with h; rw [h]
  rw [e, unseen]
end Ac
end Go.Proofs.YtokbckflleaplaaDoor
