/-
  Conditions: which may be; for which packets they hold.
-/
import Derived.Test.YtpkjnmddembkjaaGreatDoorPd7
namespace Go.Proofs.YtpkjnmddembkjaaGreatDoor
open Go.Sx
set_option maxRecDepth 20000
set_option linter.unusedSimpArgs false
set_option linter.unusedVariables false
set_option maxHeartbeats 4000000
set_option linter.unusedVariables false
section
variable (F : Heap)
theorem refright26_c (p : Pd.T) (u : Value) (hs : Pd.size p ≤ 4611686018427387904) (hu : Pd.Row F u p.l) : NCall Tryz.prog 20 [.agg (Pd.cs p u)] [hpB F] fun r m => r = .bool (Pd.right p) ∧ m = [hpB F] := by
  refine NCall.fits (K := fun r m => r = .bool (Pd.right p) ∧ MemFits m [hpB F]) ?_ fun r m' h => ⟨r, _, rfl, h.2, h.1, rfl⟩
  have c1 := refsize26_c F _ p u (Nat.le_refl _) hs hu
  have c2 := refdeep26_c F _ p u (Nat.le_refl _) hs hu
  have c3 := fits26_c F _ p u (Nat.le_refl _) hs hu
  have hd := Pd.deep_size p
  unfold Pd.right
  generalize Pd.fits p = fb at *
  generalize Pd.size p = sz at *
  generalize Pd.deep p = dp at *
  simp only [Pd.cs] at *
  refine ncall_of Tryz.func20 rfl (by decide) ?_
  cases fb
  · (repeat' (first|(with_reducible first|(refine hK _ _ ?_;clear hK K)|(refine hK _ ?_;clear hK K))|((with_reducible refine gO ?_);(first|((with_reducible first|refine z25 ?_|refine z26 ?_);intro K hK;(conv=>whnf))|(with_reducible refine z0 ?_)))|((first|((with_reducible refine gI ?_);(((with_reducible refine NIf.no ?s ?_);case s=>rfl)))|((with_reducible refine gH ?_);((with_reducible refine NH.mk ?s ?_);case s=>(and_intros<;>with_reducible rfl)))|((with_reducible refine gC ?_);((with_reducible refine NCall.isF 49 ?_);refine NCall.subE [0] (c3) rfl (by decide) rfl rfl ?_)))<;>(conv=>whnf))|((with_reducible refine gX ?_);((with_reducible first|refine z3 ?_|refine z4 ?_|refine z8 ?_)))|(with_reducible first|refine z1 ?_|refine z2 ?_)|((with_reducible refine gR ?_);((refine z31 rfl ?_);intro K hK;(conv=>whnf)))|((with_reducible refine gF ?_);((refine z33 rfl ?_);intro K hK;(conv=>whnf)))|((intro _;skip)<;>(conv=>whnf))))
    all_goals exact ⟨rfl, MemFits.pre 1 rfl⟩
  · (repeat' (first|(with_reducible first|(refine hK _ _ ?_;clear hK K)|(refine hK _ ?_;clear hK K))|((with_reducible refine gO ?_);(first|((with_reducible first|refine z25 ?_|refine z26 ?_);intro K hK;(conv=>whnf))|(with_reducible refine z0 ?_)))|((first|((with_reducible refine gI ?_);(first|((with_reducible refine NIf.decY ?s ?_);case s=>assumption)|((with_reducible refine NIf.decN ?s ?_);case s=>assumption)|((with_reducible refine NIf.yes ?s ?_);case s=>rfl)|(with_reducible refine NIf.dec (fun _=>?_) (fun _=>?_))))|((with_reducible refine gH ?_);((with_reducible refine NH.mk ?s ?_);case s=>(and_intros<;>with_reducible rfl)))|((with_reducible refine gC ?_);(first|((with_reducible refine NCall.isF 50 ?_);refine NCall.subE [0] (c1) rfl (by decide) rfl rfl ?_)|((with_reducible refine NCall.isF 51 ?_);refine NCall.subE [0] (c2) rfl (by decide) rfl rfl ?_)|((with_reducible refine NCall.isF 49 ?_);refine NCall.subE [0] (c3) rfl (by decide) rfl rfl ?_))))<;>(conv=>whnf))|((with_reducible refine gX ?_);((with_reducible first|refine z3 ?_|refine z4 ?_|refine z8 ?_)))|(with_reducible first|refine z1 ?_|refine z2 ?_)|((with_reducible refine gR ?_);((refine z31 rfl ?_);intro K hK;(conv=>whnf)))|((with_reducible refine gF ?_);((refine z33 rfl ?_);intro K hK;(conv=>whnf)))|((intro _;skip)<;>(conv=>whnf))))
    all_goals
      refine ⟨?_, MemFits.pre 1 rfl⟩
      congr 1
      first
        | (rw [show decide (sz ≤ 64) = true from decide_eq_true (by omega), show decide (dp ≤ 8) = true from decide_eq_true (by omega)]; simp; done)
        | (rw [show decide (sz ≤ 64) = false from decide_eq_false (by omega)]; simp; done)
        | (rw [show decide (sz ≤ 64) = true from decide_eq_true (by omega)]; simp; omega)
        | (simp; omega)
end
end Go.Proofs.YtpkjnmddembkjaaGreatDoor

