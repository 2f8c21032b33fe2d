/-
  Conditions: the same; which may be.
-/
import Derived.Test.YtngodakgbldlpaaGreatDoorTPd3
namespace Go.Proofs.YtngodakgbldlpaaGreatDoor
open Go.Sx
set_option maxRecDepth 20000
set_option linter.unusedSimpArgs false
set_option linter.unusedVariables false
set_option maxHeartbeats 4000000
set_option linter.unusedVariables false
section
variable (F : Heap)
theorem equal26_c (v w : Value) (a b : List Pd.T) (hv : Pd.Row F v a) (hw : Pd.Row F w b) (ha : a.length ≤ 4611686018427387904) (hb : b.length ≤ 4611686018427387904) (g : FuncId)
    (hg : ∀ x ∈ a, ∀ y ∈ b, ∀ A B, Pd.Row F A x.l → Pd.Row F B y.l → NCall Tryz.prog g [.agg (Pd.cs x A), .agg (Pd.cs y B)] [hpB F] fun r m => r = .bool (Pd.same x y) ∧ m = [hpB F]) :
    NCall Tryz.prog 73 [.hs v a.length, .hs w b.length, .fn g [] []] [hpB F] fun r m => r = .bool (Pd.sameL a b) ∧ m = [hpB F] := by
  refine NCall.fits (K := fun r m => r = .bool (Pd.sameL a b) ∧ MemFits m [hpB F]) ?_ fun r m' h => ⟨r, _, rfl, h.2, h.1, rfl⟩
  have hok := hv.ok
  have hok2 := hw.ok
  have hs := Pd.sameL_iff a b
  refine ncall_of Tryz.func73 rfl (by decide) ?_
  by_cases hl : a.length = b.length
  · repeat' first|(refine sxZ ?_;try clear hK K)|refine sxW ?_ ?_<;>intro _|(intro K hK _;(conv=>whnf))
    refine st_auto (α := Nat) (fun k => k ≤ a.length ∧ ∀ (j : Nat) (x y : Pd.T), j < k → a[j]? = some x → b[j]? = some y → Pd.same x y = true) (fun k => [.keep, .keep, .keep, .keep, .keep, .keep, .drop, .drop, .drop, .drop, .keep, .keep, .keep, .keep, .keep, .keep, .keep, .set (.int .i64 k), .drop, .drop, .drop, .drop, .drop, .drop, .drop, .drop, .drop, .drop, .drop, .drop, .drop, .drop]) (fun _ => []) (fun k => a.length - k) 0 ⟨Nat.zero_le _, fun j x y hj => absurd hj (Nat.not_lt_zero _)⟩ ?_ (MemFits.eq rfl) ?_
    · exact fitsGo
    (intro k ⟨hk, hgone⟩; intro K hK; (conv=>whnf); refine hK _ _ ?_; clear hK K)
    by_cases hlt : k < a.length
    · have hx : a[k]? = some a[k] := List.getElem?_eq_getElem hlt
      have hy : b[k]? = some (b[k]'(by omega)) := List.getElem?_eq_getElem (by omega)
      obtain ⟨A, cap, hA, c0, c1, c2, c3⟩ := hv.get hx
      obtain ⟨B, cap', hB, d0, d1, d2, d3⟩ := hw.get hy
      have c := hg _ (List.mem_of_getElem? hx) _ (List.mem_of_getElem? hy) _ _ hA hB
      generalize a[k] = x at *
      generalize (b[k]'(by omega)) = y at *
      simp only [Pd.cs] at c
      by_cases hq : Pd.same x y = true
      · rw [hq] at c
        repeat' first|(intro K hK;(with_reducible refine gC ?_);refine cS [0] c ?_)|(refine sxZ ?_;try clear hK K)|refine sxW ?_ ?_<;>intro _|(intro K hK _;(conv=>whnf))
        refine st_round (k + 1) ⟨hlt, fun j x' y' hj h1 h2 => ?_⟩ (by omega) ?_ (MemFits.pre 1 rfl)
        · by_cases e : j = k
          · subst e
            rw [hx] at h1
            rw [hy] at h2
            injection h1 with h1
            injection h2 with h2
            rw [← h1, ← h2]; exact hq
          · exact hgone j x' y' (by omega) h1 h2
        · exact fitsGo
      · have hqf : Pd.same x y = false := by simpa using hq
        rw [hqf] at c
        have hne : Pd.sameL a b = false := by
          cases h : Pd.sameL a b with
          | false => rfl
          | true => exact (hq ((hs.1 h).2 k x y hx hy)).elim
        rw [hne]
        repeat' first|(intro K hK;(with_reducible refine gC ?_);refine cS [0] c ?_)|(refine sxZ ?_;try clear hK K)|refine sxW ?_ ?_<;>intro _|(intro K hK _;(conv=>whnf))
        all_goals exact ⟨rfl, MemFits.pre 1 rfl⟩
    · have hy : Pd.sameL a b = true := hs.2 ⟨hl, fun j x y h1 h2 => hgone j x y (by have := (List.getElem?_eq_some_iff.1 h1).1; omega) h1 h2⟩
      rw [hy]
      repeat' first|(refine sxZ ?_;try clear hK K)|refine sxW ?_ ?_<;>intro _|(intro K hK _;(conv=>whnf))
      all_goals exact ⟨rfl, MemFits.pre 1 rfl⟩
  · have hne : Pd.sameL a b = false := by
      cases h : Pd.sameL a b with
      | false => rfl
      | true => exact (hl (hs.1 h).1).elim
    rw [hne]
    repeat' first|(refine sxZ ?_;try clear hK K)|refine sxW ?_ ?_<;>intro _|(intro K hK _;(conv=>whnf))
    all_goals exact ⟨rfl, MemFits.pre 1 rfl⟩
theorem same26_c : ∀ (n : Nat) (p q : Pd.T) (u w : Value), Pd.size p ≤ n → Pd.size p ≤ 4611686018427387904 → Pd.size q ≤ 4611686018427387904 → Pd.Row F u p.l → Pd.Row F w q.l →
    NCall Tryz.prog 42 [.agg (Pd.cs p u), .agg (Pd.cs q w)] [hpB F] fun r m => r = .bool (Pd.same p q) ∧ m = [hpB F]
  | 0, p, q, u, w, hn, _, _, _, _ => absurd (Pd.size_pos p) (by omega)
  | n + 1, ⟨k, f, v, l⟩, ⟨k', f', v', l'⟩, u, w, hn, hs, hs', hu, hw => by
    refine NCall.fits (K := fun r m => r = .bool (Pd.same (.mk k f v l) (.mk k' f' v' l')) ∧ MemFits m [hpB F]) ?_ fun r m' h => ⟨r, _, rfl, h.2, h.1, rfl⟩
    have hu : Pd.Row F u l := hu
    have hw : Pd.Row F w l' := hw
    have e : Pd.same (.mk k f v l) (.mk k' f' v' l') = (decide (k = k') && decide (f = f') && decide (v = v') && Pd.sameL l l') := by rw [Pd.same]
    have e2 : Pd.size (.mk k f v l) = 1 + Pd.sizeL l := by rw [Pd.size]
    have e3 : Pd.size (.mk k' f' v' l') = 1 + Pd.sizeL l' := by rw [Pd.size]
    have hll := Pd.length_le l
    have hll' := Pd.length_le l'
    have ce := equal26_c F u w l l' hu hw (by omega) (by omega) 42 fun x hx y hy A B hA hB => same26_c n x y A B (by have := Pd.size_lt (k := k) (f := f) (v := v) hx; omega) (by have := Pd.size_lt (k := k) (f := f) (v := v) hx; omega) (by have := Pd.size_lt (k := k') (f := f') (v := v') hy; omega) hA hB
    rw [e]
    generalize Pd.sameL l l' = sb at *
    refine ncall_of Tryz.func42 rfl (by decide) ?_
    rw [pd_cs, pd_cs]
    by_cases h1 : k = k'
    · by_cases h2 : f = f'
      · by_cases h3 : v = v'
        · subst h1 h2 h3
          repeat' first|((try intro K hK);(with_reducible refine gC ?_);refine cS [0] ce ?_)|((first|intro A B hA hB|intro K hK|skip);first|((with_reducible refine NIf.yes ?s ?_);(case s=>simp ;done);(conv=>whnf))|((with_reducible refine NIf.no ?s ?_);(case s=>simp ;done);(conv=>whnf)))|(refine sxZ ?_;(try clear hK K);try clear hA hB A B)|refine sxW ?_ ?_<;>intro _|(intro K hK _;(conv=>whnf))
          all_goals exact ⟨by simp, MemFits.pre 1 rfl⟩
        · subst h1 h2
          repeat' first|((first|intro A B hA hB|intro K hK|skip);first|((with_reducible refine NIf.yes ?s ?_);(case s=>simp [h3];done);(conv=>whnf))|((with_reducible refine NIf.no ?s ?_);(case s=>simp [h3];done);(conv=>whnf)))|(refine sxZ ?_;(try clear hK K);try clear hA hB A B)|refine sxW ?_ ?_<;>intro _|(intro K hK _;(conv=>whnf))
          all_goals exact ⟨by simp [h3], MemFits.pre 1 rfl⟩
      · subst h1
        repeat' first|((first|intro A B hA hB|intro K hK|skip);first|((with_reducible refine NIf.yes ?s ?_);(case s=>simp [h2];done);(conv=>whnf))|((with_reducible refine NIf.no ?s ?_);(case s=>simp [h2];done);(conv=>whnf)))|(refine sxZ ?_;(try clear hK K);try clear hA hB A B)|refine sxW ?_ ?_<;>intro _|(intro K hK _;(conv=>whnf))
        all_goals exact ⟨by simp [h2], MemFits.pre 1 rfl⟩
    · repeat' first|(refine sxZ ?_;try clear hK K)|refine sxW ?_ ?_<;>intro _|(intro K hK _;(conv=>whnf))
      all_goals exact ⟨by simp [h1], MemFits.pre 1 rfl⟩
end
end Go.Proofs.YtngodakgbldlpaaGreatDoor


