/-
  AuditOwn: what a packet more changes.
-/
import Derived.Test.YtijkmhmgigaieaaAu5
namespace Go.Proofs.Ytijkmhmgigaieaa
namespace Au
open Tc (E C)
/-- An event that tells nothing of updates. -/
def mute (e : E) : Prop := e.kind < 8
theorem find_mute {p : E → Bool} {e : E} (h : p e = false) (l : List E) : (l ++ [e]).find? p = l.find? p := by
  rw [List.find?_append]
  simp [h]
theorem end_mute {e : E} (h : mute e) (l : List E) (u y : Int) : endOf (l ++ [e]) u y = endOf l u y := by
  unfold mute at h
  unfold endOf
  rw [find_mute (by
    unfold ends
    rw [decide_eq_false (show ¬e.kind = 9 by omega), decide_eq_false (show ¬e.kind = 10 by omega)]
    simp)]
theorem gAt_mute {e : E} (h : mute e) (l : List E) {k : Nat} (hk : k < l.length) : gAt (l ++ [e]) k = gAt l k := by
  unfold gAt
  rw [List.getElem?_append_left hk, List.drop_append_of_le_length (by omega)]
  simp only [end_mute h]
theorem gTo_mute {e : E} (h : mute e) (l : List E) : ∀ k, k ≤ l.length → gTo (l ++ [e]) k = gTo l k
  | 0, _ => rfl
  | k + 1, hk => by rw [gTo_next, gTo_next, gTo_mute h l k (by omega), gAt_mute h l (by omega)]
theorem guards_mute {e : E} (h : mute e) (l : List E) : guards (l ++ [e]) = guards l := by
  unfold guards
  rw [List.length_append, List.length_singleton, gTo_next, gTo_mute h l _ (Nat.le_refl _)]
  unfold mute at h
  have : gAt (l ++ [e]) l.length = [] := by
    unfold gAt
    rw [List.getElem?_append_right (Nat.le_refl _), Nat.sub_self]
    exact if_neg (by omega)
  rw [this, List.append_nil]
theorem guarded_mute {e : E} (h : mute e) (l : List E) (a : Int) : guarded (l ++ [e]) a = guarded l a := by unfold guarded; rw [guards_mute h]
theorem force_mute {e : E} (h : mute e) (l : List E) (a : Int) : inForce (l ++ [e]) a = inForce l a := by
  unfold inForce
  rw [guards_mute h, List.foldl_append]
  unfold mute at h
  exact if_neg (fun h2 => by have := h2.1; omega)
theorem finds_mute {e : E} (h : mute e) (t : Tp.T) (rs : List (List (List Int))) (l : List E) (c : C) : finds t rs (l ++ [e]) c = finds t rs l c := by
  unfold finds
  rw [guarded_mute h, force_mute h]
def inj1 (a u f t : Int) : E := ⟨1, a, u, 0, f, t⟩
def lost1 (a u : Int) : E := ⟨4, a, u, 0, 0, 0⟩
def more (l : List E) (a u f t : Int) (b : Bool) : List E := if b = true then l ++ [inj1 a u f t] ++ [lost1 a u] else l ++ [inj1 a u f t]
theorem tr_inj (l : List E) (a u f t : Int) : Tc.tr (l ++ [inj1 a u f t]) = Tc.tr l ++ [Tc.new (inj1 a u f t)] := by
  rw [Tc.tr_snoc, Tc.step_new rfl]
theorem tr_lost (l : List E) (a u f t : Int) : Tc.tr (l ++ [inj1 a u f t] ++ [lost1 a u]) = Tc.tr l ++ [Tc.upd (lost1 a u) (Tc.new (inj1 a u f t))] := by
  rw [Tc.tr_snoc, tr_inj]
  have hs : Tc.stk (Tc.tr l ++ [Tc.new (inj1 a u f t)]) (lost1 a u).u = Tc.stk (Tc.tr l) u ++ [(Tc.tr l).length] := by
    rw [Tc.stk_new]
    rw [if_pos (show (inj1 a u f t).u = (lost1 a u).u from rfl)]
    rfl
  rw [Tc.step_upd (by decide : (2 : Int) ≤ 4) (by decide : (4 : Int) ≤ 4) hs (by rw [List.getElem?_append_right (Nat.le_refl _), Nat.sub_self]; rfl)]
  simp
theorem check_more (t : Tp.T) (rs : List (List (List Int))) (l : List E) (a u f to : Int) (b : Bool) : check t rs (more l a u f to b) = check t rs l ++ one b 2 u := by
  have m1 : mute (inj1 a u f to) := show (1 : Int) < 8 by decide
  have m2 : mute (lost1 a u) := show (4 : Int) < 8 by decide
  cases b with
  | false =>
    unfold more check
    rw [if_neg (by decide), tr_inj, List.flatMap_append]
    rw [show (finds t rs (l ++ [inj1 a u f to])) = finds t rs l from funext fun c => finds_mute m1 t rs l c]
    congr 1
    rw [List.flatMap_singleton]
    unfold finds Tc.new
    rw [show walked t rs (inForce l (inj1 a u f to).real) ⟨(inj1 a u f to).u, (inj1 a u f to).x, (inj1 a u f to).y, (inj1 a u f to).real, [], 0, 0, (inj1 a u f to).real⟩ = true from walked_nil rfl]
    simp [one, Tc.twice]
  | true =>
    unfold more check
    rw [if_pos rfl, tr_lost, List.flatMap_append]
    rw [show (finds t rs (l ++ [inj1 a u f to] ++ [lost1 a u])) = finds t rs l from funext fun c => by rw [finds_mute m2, finds_mute m1]]
    congr 1
    rw [List.flatMap_singleton]
    unfold finds
    rw [show walked t rs (inForce l (Tc.upd (lost1 a u) (Tc.new (inj1 a u f to))).at_) (Tc.upd (lost1 a u) (Tc.new (inj1 a u f to))) = true from walked_nil rfl]
    simp [one, Tc.twice, Tc.upd, Tc.new, lost1, inj1]
theorem check_none (t : Tp.T) (rs : List (List (List Int))) (l : List E) (h : Tc.inj l = 0) : check t rs l = [] := by
  unfold check
  have := Tc.tr_len l
  rw [h] at this
  rw [List.eq_nil_of_length_eq_zero this]
  rfl
end Au
end Go.Proofs.Ytijkmhmgigaieaa


