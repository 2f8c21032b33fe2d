/-
  AuditWalks: who goes the walk is not found.
-/
import Derived.Test.YtijkmhmgigaieaaAu9p
import Derived.Test.YtijkmhmgigaieaaRt5p
namespace Go.Proofs.Ytijkmhmgigaieaa
set_option linter.unusedVariables false
namespace Au
open Tc (E C)
/-- One who came to so many switches. -/
def came (h : Int) (i : Nat) (s : Int) : E := ⟨2, i, 0, s, 0, 0⟩
def evs (h : Int) : Nat → List Int → List E
  | _, [] => []
  | i, s :: way => came h i s :: evs h (i + 1) way
def walkE (h : Int) (way : List Int) : List E := ⟨1, 0, 0, 0, h, h⟩ :: evs h 0 way
def goneE (h : Int) (n : Nat) : E := ⟨3, n, 0, 0, h, 0⟩
theorem evs_snoc (h : Int) : ∀ (way : List Int) (i : Nat) (s : Int), evs h i (way ++ [s]) = evs h i way ++ [came h (i + way.length) s]
  | [], i, s => rfl
  | a :: way, i, s => by
    show came h i a :: evs h (i + 1) (way ++ [s]) = came h i a :: (evs h (i + 1) way ++ [came h (i + (way.length + 1)) s])
    rw [evs_snoc h way (i + 1) s, show i + 1 + way.length = i + (way.length + 1) by omega]
theorem evs_len (h : Int) : ∀ (way : List Int) (i : Nat), (evs h i way).length = way.length
  | [], _ => rfl
  | _ :: way, i => congrArg (· + 1) (evs_len h way (i + 1))
theorem no_guard {l : List E} (h : ∀ e ∈ l, e.kind < 8) : guards l = [] := by
  unfold guards
  have : ∀ k, gTo l k = [] := fun k => by
    induction k with
    | zero => rfl
    | succ k ih =>
      rw [gTo_next, ih]
      unfold gAt
      split
      · rfl
      · rename_i e he
        rw [if_neg (by have := h e (List.mem_of_getElem? he); omega)]
        rfl
  exact this _
theorem no_guarded {l : List E} (h : ∀ e ∈ l, e.kind < 8) (a : Int) : guarded l a = false := by
  unfold guarded
  rw [no_guard h]
  rfl
theorem no_force {l : List E} (h : ∀ e ∈ l, e.kind < 8) (a : Int) : inForce l a = 0 := by
  unfold inForce
  rw [no_guard h]
  have : ∀ (k : List E) (o : Int), k.foldl (fstep [] a) o = o := fun k => by
    induction k with
    | nil => exact fun o => rfl
    | cons x k ih =>
      intro o
      have hst : fstep [] a o x = o := if_neg (fun h => by have := h.2; simp at this)
      rw [List.foldl_cons, hst]
      exact ih o
  exact this l 0
/-- The trace of one who goes a way. -/
def trC (h : Int) (way : List Int) : C := ⟨0, h, h, 0, way, 0, 0, if way.length = 0 then 0 else (way.length : Int) - 1⟩
theorem tr_walk (h : Int) : ∀ (n : Nat) (way : List Int), way.length = n → Tc.tr (walkE h way) = [trC h way] := by
  intro n
  induction n with
  | zero =>
    intro way hw
    rw [List.eq_nil_of_length_eq_zero hw]
    rfl
  | succ n ih =>
    intro way hw
    obtain ⟨w, s, rfl⟩ : ∃ w s, way = w ++ [s] := by
      refine ⟨way.dropLast, way.getLast (by intro e; rw [e] at hw; cases hw), ?_⟩
      exact (List.dropLast_concat_getLast _).symm
    rw [List.length_append, List.length_singleton] at hw
    have hl : w.length = n := by omega
    have : walkE h (w ++ [s]) = walkE h w ++ [came h w.length s] := by
      unfold walkE
      rw [evs_snoc, Nat.zero_add]
      rfl
    rw [this, Tc.tr_snoc, ih w hl]
    have hs : Tc.stk [trC h w] (came h w.length s).u = [] ++ [0] := by rfl
    rw [Tc.step_upd (by decide : (2 : Int) ≤ 2) (by decide : (2 : Int) ≤ 4) hs rfl]
    simp [Tc.upd, trC, came]
theorem tr_gone (h : Int) (way : List Int) (n : Nat) : Tc.tr (walkE h way ++ [goneE h n]) = [{ trC h way with end_ := 3, host := h, last := n }] := by
  rw [Tc.tr_snoc, tr_walk h _ way rfl]
  have hs : Tc.stk [trC h way] (goneE h n).u = [] ++ [0] := by rfl
  rw [Tc.step_upd (by decide : (2 : Int) ≤ 3) (by decide : (3 : Int) ≤ 4) hs rfl]
  simp [Tc.upd, trC, goneE]
theorem walkE_kind (h : Int) (way : List Int) : ∀ e ∈ walkE h way, e.kind < 8 := by
  have : ∀ (way : List Int) (i : Nat), ∀ e ∈ evs h i way, e.kind < 8 := fun way => by
    induction way with
    | nil => exact fun i e he => by cases he
    | cons a way ih =>
      intro i e he
      rcases List.mem_cons.1 he with rfl | he
      · show (2 : Int) < 8
        decide
      · exact ih (i + 1) e he
  intro e he
  rcases List.mem_cons.1 he with rfl | he
  · show (1 : Int) < 8
    decide
  · exact this way 0 e he
theorem gone_kind (h : Int) (way : List Int) (n : Nat) : ∀ e ∈ walkE h way ++ [goneE h n], e.kind < 8 := by
  intro e he
  rcases List.mem_append.1 he with he | he
  · exact walkE_kind h way e he
  · rw [List.mem_singleton] at he
    subst he
    show (3 : Int) < 8
    decide
theorem wk_ok {t : Tp.T} {r : List (List Int)} {h : Int} {way : List Int} : ∀ (f : Nat) (l : List Int) (x : Int), l.Nodup → Rt.wk t r h f (l ++ [x]) = (way, 0) → way.Nodup ∧ ∃ rest, way = (l ++ [x]) ++ rest
  | 0, l, x, hnd, e => by
    rw [Rt.wk] at e
    cases e
  | f + 1, l, x, hnd, e => by
    rw [Rt.wk] at e
    split at e
    · cases e
    · rename_i htw
      have hnd2 : (l ++ [x]).Nodup := by
        rw [List.nodup_append]
        exact ⟨hnd, by simp, fun a ha b hb e2 => by rw [List.mem_singleton] at hb; exact htw (Rt.twice_iff.2 (by rw [← hb, ← e2]; exact ha))⟩
      rw [List.getLast?_append, List.getLast?_singleton, Option.some_or] at e
      dsimp only at e
      split at e
      · cases e
        exact ⟨hnd2, [], (List.append_nil _).symm⟩
      · split at e
        · cases e
        · rename_i b _
          obtain ⟨h1, rest, h2⟩ := wk_ok f (l ++ [x]) b hnd2 e
          exact ⟨h1, [b] ++ rest, by rw [h2, List.append_assoc]⟩
theorem walk_ok {t : Tp.T} {r : List (List Int)} {s h : Int} {way : List Int} (e : Rt.walk t r s h = (way, 0)) : way.Nodup ∧ ∃ rest, way = s :: rest := by
  unfold Rt.walk at e
  split at e
  · cases e
  · exact wk_ok 10 [] s List.nodup_nil e
theorem walked_iff {t : Tp.T} {r : List (List Int)} {s h : Int} {way : List Int} (e : Rt.walk t r s h = (way, 0)) {c : C} {rest : List Int} (hs : c.sws = s :: rest) (ht : c.to = h) :
    walked t [r] 0 c = (decide (c.sws.length ≤ way.length) && ((decide (c.end_ = 0) || decide (way.length ≤ c.sws.length)) && decide (way.take c.sws.length = c.sws))) := by
  have := walked_in (t := t) (rs := [r]) (k := 0) (c := c) (r := r) hs rfl
  rw [show ((0 : Nat) : Int) = 0 from rfl, ht, e] at this
  rw [this]
  rfl
theorem walks_none {t : Tp.T} {r : List (List Int)} {s h : Int} {way : List Int} (e : Rt.walk t r s h = (way, 0)) : check t [r] (walkE h way) = [] := by
  obtain ⟨hnd, rest, hw⟩ := walk_ok e
  unfold check
  rw [tr_walk h _ way rfl, List.flatMap_singleton]
  unfold finds
  rw [no_force (walkE_kind h way), no_guarded (walkE_kind h way), walked_iff e (c := trC h way) hw rfl]
  simp [trC, Tc.twice, hnd, one]
theorem walks_gone {t : Tp.T} {r : List (List Int)} {s h : Int} {way : List Int} (e : Rt.walk t r s h = (way, 0)) (n : Nat) : check t [r] (walkE h way ++ [goneE h n]) = [] := by
  obtain ⟨hnd, rest, hw⟩ := walk_ok e
  unfold check
  rw [tr_gone, List.flatMap_singleton]
  unfold finds
  rw [no_force (gone_kind h way n), no_guarded (gone_kind h way n), walked_iff e (c := { trC h way with end_ := 3, host := h, last := n }) hw rfl]
  simp [trC, Tc.twice, hnd, one]
theorem walks_other {t : Tp.T} {r : List (List Int)} {s h : Int} {way : List Int} (e : Rt.walk t r s h = (way, 0)) (n : Nat) {k : Nat} {sw x : Int} (hx : way[k + 1]? = some x) (hne : x ≠ sw) : ∃ l, check t [r] (walkE h (way.set (k + 1) sw) ++ [goneE h n]) = l ++ [(4, 0)] := by
  obtain ⟨hnd, rest, hw⟩ := walk_ok e
  have hset : way.set (k + 1) sw = s :: rest.set k sw := by rw [hw]; rfl
  have hno : ¬way.take (way.set (k + 1) sw).length = way.set (k + 1) sw := fun h2 => by
    rw [List.length_set, List.take_length] at h2
    have h3 := congrArg (fun l => l[k + 1]?) h2
    have hk := (List.getElem?_eq_some_iff.1 hx).1
    rw [hx, List.getElem?_set_self hk] at h3
    cases h3
    exact hne rfl
  unfold check
  rw [tr_gone, List.flatMap_singleton]
  unfold finds
  rw [no_force (gone_kind h _ n), no_guarded (gone_kind h _ n), walked_iff e (c := { trC h (way.set (k + 1) sw) with end_ := 3, host := h, last := n }) hset rfl]
  rw [show decide (way.take (trC h (way.set (k + 1) sw)).sws.length = (trC h (way.set (k + 1) sw)).sws) = false from decide_eq_false hno, Bool.and_false, Bool.and_false]
  exact ⟨_, rfl⟩
theorem evs_set (h : Int) : ∀ (way : List Int) (i k : Nat) (s : Int), evs h i (way.set k s) = (evs h i way).set k (came h (i + k) s)
  | [], i, k, s => rfl
  | a :: way, i, 0, s => rfl
  | a :: way, i, k + 1, s => by
    show came h i a :: evs h (i + 1) (way.set k s) = came h i a :: (evs h (i + 1) way).set k (came h (i + (k + 1)) s)
    rw [evs_set h way (i + 1) k s, show i + 1 + k = i + (k + 1) by omega]
theorem walkE_set (h : Int) (way : List Int) (n k : Nat) (s : Int) (hk : k < way.length) : walkE h (way.set k s) ++ [goneE h n] = (walkE h way ++ [goneE h n]).set (k + 1) (came h k s) := by
  unfold walkE
  rw [evs_set, Nat.zero_add, List.cons_append, List.cons_append, List.set_cons_succ, List.set_append, if_pos (by rw [evs_len]; exact hk)]
end Au
end Go.Proofs.Ytijkmhmgigaieaa


