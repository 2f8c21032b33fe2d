/-
  Conditions: which may be; for which packets they hold.
-/
import Derived.Test.YtngodakgbldlpaaGreatDoorTPd5
namespace Go.Proofs.YtngodakgbldlpaaGreatDoor
open Go.Sx
set_option maxRecDepth 20000
set_option linter.unusedSimpArgs false
set_option linter.unusedVariables false
set_option maxHeartbeats 4000000
set_option linter.unusedVariables false
section
variable (F : Heap)
theorem fits26_t (k f v : Int) (l : List Pd.T) (u : Value) (hs : Pd.size (.mk k f v l) ≤ 4611686018427387904) (hu : Pd.Row F u l) (hsh : k = 3 ∧ (0 ≤ f ∧ f ≤ 5) ∧ (0 ≤ v ∧ v ≤ Pd.top f) ∧ l.length = 0 ∨ (k = 1 ∨ k = 2) ∧ f = 0 ∧ v = 0 ∧ l.length = 0 ∨ k = 4 ∧ f = 0 ∧ v = 0 ∧ l.length = 1 ∨ (k = 5 ∨ k = 6) ∧ f = 0 ∧ v = 0 ∧ 2 ≤ l.length ∧ l.length ≤ 8)
    (ih : ∀ x ∈ l, ∀ A, Pd.Row F A x.l → NCall Tryz.prog 31 [.agg (Pd.cs x A)] [hpB F] fun r m => r = .bool (Pd.fits x) ∧ m = [hpB F]) :
    NCall Tryz.prog 31 [.agg (Pd.cs (.mk k f v l) u)] [hpB F] fun r m => r = .bool (Pd.fitsL l) ∧ MemFits m [hpB F] := by
  have hok := hu.ok
  have hll := Pd.length_le l
  have e2 : Pd.size (.mk k f v l) = 1 + Pd.sizeL l := by rw [Pd.size]
  have ct := reftop26_c f
  have hfl := Pd.fitsL_iff l
  generalize Pd.top f = tf at *
  refine ncall_of Tryz.func31 rfl (by decide) ?_
  rw [pd_cs]
  rcases hsh with ⟨hk, hq⟩ | ⟨hk, hq⟩ | ⟨hk, hq⟩ | ⟨hk, hq⟩
  all_goals (repeat' first|(intro K hK;(with_reducible refine gC ?_);refine cP ct ?_)|(refine sxZK [] ?_;try clear hK K)|refine sxW ?_ ?_<;>intro _|refine sxVK ?_ ?_|(intro K hK _;(conv=>whnf)))
  all_goals try (exfalso; omega)
  all_goals
    refine st_auto (α := Nat) (fun i => i ≤ l.length ∧ ∀ (j : Nat) (x : Pd.T), j < i → l[j]? = some x → Pd.fits x = true) (fun i => [.keep, .keep, .drop, .keep, .set (.int .i64 i), .keep, .keep, .keep, .keep, .keep, .keep, .keep, .keep, .keep, .keep, .keep, .keep, .keep, .keep, .keep, .keep, .keep, .keep, .keep, .keep, .keep, .keep, .keep, .keep, .keep, .keep, .keep, .keep, .keep, .keep, .keep, .keep, .keep, .keep, .keep, .keep, .keep, .keep, .keep, .keep, .keep, .keep, .keep, .keep, .keep, .keep, .keep, .keep, .keep, .keep, .keep, .keep, .keep, .keep, .keep, .keep, .keep, .keep, .keep, .keep, .keep, .keep, .keep, .keep, .keep, .keep, .keep, .keep, .keep, .keep, .keep, .keep, .keep, .keep, .keep, .keep, .keep, .keep, .keep, .keep, .keep, .drop, .drop, .drop, .drop, .drop, .drop, .drop, .drop, .drop, .drop, .drop, .drop]) (fun _ => []) (fun i => l.length - i) 0 ⟨Nat.zero_le _, fun j x hj => absurd hj (Nat.not_lt_zero _)⟩ ?_ (MemFits.eq rfl) ?_
    · exact fitsGo
    (intro i ⟨hi, hgone⟩; intro K hK; (conv=>whnf); refine hK _ _ ?_; clear hK K)
    by_cases hlt : i < l.length
    · have hx : l[i]? = some l[i] := List.getElem?_eq_getElem hlt
      obtain ⟨A, cap, hA, c0, c1, c2, c3⟩ := hu.get hx
      have hmem := List.mem_of_getElem? hx
      have c := ih _ hmem _ hA
      generalize l[i] = x at *
      simp only [Pd.cs] at c
      cases hq : Pd.fits x with
      | true =>
        rw [hq] at c
        repeat' first|(intro K hK;(with_reducible refine gC ?_);refine cS [0] c ?_)|(refine sxZ ?_;try clear hK K)|refine sxW ?_ ?_<;>intro _|(intro K hK _;(conv=>whnf))
        refine st_round (i + 1) ⟨hlt, fun j y hj hy => ?_⟩ (by omega) ?_ (MemFits.eq rfl)
        · by_cases e : j = i
          · subst e
            rw [hx] at hy
            injection hy with hy
            rw [← hy]; exact hq
          · exact hgone j y (by omega) hy
        · exact fitsGo
      | false =>
        rw [hq] at c
        have hne : Pd.fitsL l = false := by
          cases h : Pd.fitsL l with
          | false => rfl
          | true => have := hfl.1 h x hmem; rw [hq] at this; cases this
        rw [hne]
        repeat' first|(intro K hK;(with_reducible refine gC ?_);refine cS [0] c ?_)|(refine sxZ ?_;try clear hK K)|refine sxW ?_ ?_<;>intro _|(intro K hK _;(conv=>whnf))
        all_goals exact ⟨rfl, MemFits.pre 1 rfl⟩
    · have hyl : Pd.fitsL l = true := hfl.2 fun x hx => by
        obtain ⟨j, hj, e⟩ := List.getElem_of_mem hx
        exact hgone j x (by omega) (by rw [← e]; exact List.getElem?_eq_getElem hj)
      rw [hyl]
      repeat' first|(refine sxZ ?_;try clear hK K)|refine sxW ?_ ?_<;>intro _|(intro K hK _;(conv=>whnf))
      all_goals exact ⟨rfl, MemFits.pre 1 rfl⟩
theorem fits26_f (k f v : Int) (l : List Pd.T) (u : Value) (hs : Pd.size (.mk k f v l) ≤ 4611686018427387904) (hu : Pd.Row F u l) (hsh : ¬ (k = 3 ∧ (0 ≤ f ∧ f ≤ 5) ∧ (0 ≤ v ∧ v ≤ Pd.top f) ∧ l.length = 0 ∨ (k = 1 ∨ k = 2) ∧ f = 0 ∧ v = 0 ∧ l.length = 0 ∨ k = 4 ∧ f = 0 ∧ v = 0 ∧ l.length = 1 ∨ (k = 5 ∨ k = 6) ∧ f = 0 ∧ v = 0 ∧ 2 ≤ l.length ∧ l.length ≤ 8)) :
    NCall Tryz.prog 31 [.agg (Pd.cs (.mk k f v l) u)] [hpB F] fun r m => r = .bool false ∧ MemFits m [hpB F] := by
  have hok := hu.ok
  have hll := Pd.length_le l
  have e2 : Pd.size (.mk k f v l) = 1 + Pd.sizeL l := by rw [Pd.size]
  have ct := reftop26_c f
  generalize Pd.top f = tf at *
  refine ncall_of Tryz.func31 rfl (by decide) ?_
  rw [pd_cs]
  have hc : (k = 3 ∧ ¬ ((0 ≤ f ∧ f ≤ 5) ∧ (0 ≤ v ∧ v ≤ tf) ∧ l.length = 0)) ∨ ((k = 1 ∨ k = 2) ∧ ¬ (f = 0 ∧ v = 0 ∧ l.length = 0)) ∨ (k = 4 ∧ ¬ (f = 0 ∧ v = 0 ∧ l.length = 1)) ∨ ((k = 5 ∨ k = 6) ∧ ¬ (f = 0 ∧ v = 0 ∧ 2 ≤ l.length ∧ l.length ≤ 8)) ∨ (k < 1 ∨ 6 < k) := by omega
  clear hsh
  rcases hc with ⟨hk, hq⟩ | ⟨hk, hq⟩ | ⟨hk, hq⟩ | ⟨hk, hq⟩ | hq
  all_goals (repeat' first|(intro K hK;(with_reducible refine gC ?_);refine cP ct ?_)|(refine sxZK [] ?_;try clear hK K)|refine sxW ?_ ?_<;>intro _|refine sxVK ?_ ?_|(intro K hK _;(conv=>whnf)))
  all_goals first
    | exact ⟨rfl, MemFits.pre 1 rfl⟩
    | (exfalso; omega)
theorem fits26_c : ∀ (n : Nat) (p : Pd.T) (u : Value), Pd.size p ≤ n → Pd.size p ≤ 4611686018427387904 → Pd.Row F u p.l →
    NCall Tryz.prog 31 [.agg (Pd.cs p u)] [hpB F] fun r m => r = .bool (Pd.fits p) ∧ m = [hpB F]
  | 0, p, u, hn, _, _ => absurd (Pd.size_pos p) (by omega)
  | n + 1, ⟨k, f, v, l⟩, u, hn, hs, hu => by
    refine NCall.fits (K := fun r m => r = .bool (Pd.fits (.mk k f v l)) ∧ MemFits m [hpB F]) ?_ fun r m' h => ⟨r, _, rfl, h.2, h.1, rfl⟩
    have ih : ∀ x ∈ l, ∀ A, Pd.Row F A x.l → _ := fun x hx A hA => fits26_c n x A (by have := Pd.size_lt (k := k) (f := f) (v := v) hx; omega) (by have := Pd.size_lt (k := k) (f := f) (v := v) hx; omega) hA
    rw [Pd.fits]
    have hsh : Pd.shape k f v l.length = decide (k = 3 ∧ (0 ≤ f ∧ f ≤ 5) ∧ (0 ≤ v ∧ v ≤ Pd.top f) ∧ l.length = 0 ∨ (k = 1 ∨ k = 2) ∧ f = 0 ∧ v = 0 ∧ l.length = 0 ∨ k = 4 ∧ f = 0 ∧ v = 0 ∧ l.length = 1 ∨ (k = 5 ∨ k = 6) ∧ f = 0 ∧ v = 0 ∧ 2 ≤ l.length ∧ l.length ≤ 8) := rfl
    rw [hsh]
    by_cases h : k = 3 ∧ (0 ≤ f ∧ f ≤ 5) ∧ (0 ≤ v ∧ v ≤ Pd.top f) ∧ l.length = 0 ∨ (k = 1 ∨ k = 2) ∧ f = 0 ∧ v = 0 ∧ l.length = 0 ∨ k = 4 ∧ f = 0 ∧ v = 0 ∧ l.length = 1 ∨ (k = 5 ∨ k = 6) ∧ f = 0 ∧ v = 0 ∧ 2 ≤ l.length ∧ l.length ≤ 8
    · rw [decide_eq_true h, Bool.true_and]
      exact fits26_t F k f v l u hs hu h ih
    · rw [decide_eq_false h, Bool.false_and]
      exact fits26_f F k f v l u hs hu h
end
end Go.Proofs.YtngodakgbldlpaaGreatDoor


