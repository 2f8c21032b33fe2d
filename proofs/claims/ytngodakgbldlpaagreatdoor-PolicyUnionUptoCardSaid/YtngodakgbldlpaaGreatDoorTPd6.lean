/-
  Conditions: which may be; for which packets they hold.
-/
import Derived.Test.YtngodakgbldlpaaGreatDoorTPd5
namespace Go.Proofs.YtngodakgbldlpaaGreatDoor
open Go.Sx
set_option maxRecDepth 20000
set_option linter.unusedSimpArgs false
set_option linter.unusedVariables false
set_option maxHeartbeats 4000000
set_option linter.unusedVariables false
theorem Pd.any_fits (l : List Pd.T) : (l.any fun x => !Pd.fits x) = !Pd.fitsL l := by
  induction l with
  | nil => rfl
  | cons p l ih => rw [List.any_cons, ih, Pd.fitsL]; cases Pd.fits p <;> simp
section
variable (F : Heap)
theorem all26_c : ∀ (n : Nat) (p : Pd.T) (u : Value), Pd.size p ≤ n → Pd.size p ≤ 4611686018427387904 → Pd.Row F u p.l →
    NCall Tryz.prog 126 [.agg (Pd.cs p u)] [hpB F] fun r m => r = .bool (Pd.fits p) ∧ m = [hpB F]
  | 0, p, u, hn, _, _ => absurd (Pd.size_pos p) (by omega)
  | n + 1, ⟨k, f, v, l⟩, u, hn, hs, hu => by
    refine NCall.fits (K := fun r m => r = .bool (Pd.fits (.mk k f v l)) ∧ MemFits m [hpB F]) ?_ fun r m' h => ⟨r, _, rfl, h.2, h.1, rfl⟩
    have hu : Pd.Row F u l := hu
    have hll := Pd.length_le l
    have e2 : Pd.size (.mk k f v l) = 1 + Pd.sizeL l := by rw [Pd.size]
    have ih : ∀ x ∈ l, ∀ A, Pd.Row F A x.l → NCall Tryz.prog 144 ([] ++ [.agg (Pd.cs x A)] ++ []) [hpB F] fun r m => r = .bool (!Pd.fits x) ∧ m = [hpB F] := fun x hx A hA => by
      have c := all26_c n x A (by have := Pd.size_lt (k := k) (f := f) (v := v) hx; omega) (by have := Pd.size_lt (k := k) (f := f) (v := v) hx; omega) hA
      refine NCall.fits (K := fun r m => r = .bool (!Pd.fits x) ∧ MemFits m [hpB F]) ?_ fun r m' h => ⟨r, _, rfl, h.2, h.1, rfl⟩
      generalize Pd.fits x = b at *
      simp only [Pd.cs] at *
      refine ncall_of Tryz.func144 rfl (by decide) ?_
      repeat' first|(intro K hK;(with_reducible refine gC ?_);refine cS [0] c ?_)|(refine sxZ ?_;try clear hK K)|refine sxW ?_ ?_<;>intro _|(intro K hK _;(conv=>whnf))
      all_goals exact ⟨rfl, MemFits.pre 1 rfl⟩
    have cc := contains26_c F (fun x => !Pd.fits x) u l hu (by omega) _ [] [] ih
    rw [Pd.any_fits] at cc
    have cs := shape26_c F k f v l u hu
    rw [Pd.fits]
    generalize Pd.shape k f v l.length = sb at *
    generalize Pd.fitsL l = fb at *
    rw [pd_cs] at *
    refine ncall_of Tryz.func126 rfl (by decide) ?_
    cases sb
    · repeat' first|(intro K hK;(with_reducible refine gC ?_);refine cS [0] cs ?_)|(refine sxZ ?_;try clear hK K)|refine sxW ?_ ?_<;>intro _|(intro K hK _;(conv=>whnf))
      all_goals exact ⟨rfl, MemFits.pre 1 rfl⟩
    · repeat' first|(intro K hK;(with_reducible refine gC ?_);first|refine cS [0] cs ?_|refine cS [0] cc ?_)|(refine sxZ ?_;try clear hK K)|refine sxW ?_ ?_<;>intro _|(intro K hK _;(conv=>whnf))
      all_goals exact ⟨by cases fb <;> rfl, MemFits.pre 1 rfl⟩
theorem right26_c (p : Pd.T) (u : Value) (hs : Pd.size p ≤ 4611686018427387904) (hu : Pd.Row F u p.l) : NCall Tryz.prog 92 [.agg (Pd.cs p u)] [hpB F] fun r m => r = .bool (Pd.right p) ∧ m = [hpB F] := by
  refine NCall.fits (K := fun r m => r = .bool (Pd.right p) ∧ MemFits m [hpB F]) ?_ fun r m' h => ⟨r, _, rfl, h.2, h.1, rfl⟩
  have c1 := size26_c F _ p u (Nat.le_refl _) hs hu
  have c2 := deep26_c F _ p u (Nat.le_refl _) hs hu
  have c3 := all26_c F _ p u (Nat.le_refl _) hs hu
  have hd := Pd.deep_size p
  unfold Pd.right
  generalize Pd.fits p = fb at *
  generalize Pd.size p = sz at *
  generalize Pd.deep p = dp at *
  simp only [Pd.cs] at *
  refine ncall_of Tryz.func92 rfl (by decide) ?_
  repeat' first|(intro K hK;(with_reducible refine gC ?_);first|refine cS [0] c1 ?_|refine cS [0] c2 ?_|refine cS [0] c3 ?_)|(refine sxZ ?_;try clear hK K)|refine sxW ?_ ?_<;>intro _|(intro K hK _;(conv=>whnf))
  all_goals
    refine ⟨?_, MemFits.pre 1 rfl⟩
    congr 1
    first
      | (rw [show decide (sz ≤ 64) = true from decide_eq_true (by omega), show decide (dp ≤ 8) = true from decide_eq_true (by omega)]; simp; done)
      | (rw [show decide (dp ≤ 8) = false from decide_eq_false (by omega)]; simp; done)
      | (rw [show decide (sz ≤ 64) = false from decide_eq_false (by omega)]; simp; done)
end
end Go.Proofs.YtngodakgbldlpaaGreatDoor


