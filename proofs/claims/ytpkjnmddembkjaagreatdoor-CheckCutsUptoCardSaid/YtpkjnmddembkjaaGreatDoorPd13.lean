/-
  Conditions: what they are pushed to, by the program. (Printed by gen_pd13.py.)
-/
import Derived.Test.YtpkjnmddembkjaaGreatDoorPd12
namespace Go.Proofs.YtpkjnmddembkjaaGreatDoor
open Go.Sx
set_option maxRecDepth 20000
set_option maxHeartbeats 4000000
set_option linter.unusedVariables false
namespace Pd
/-- What is made stands for a condition, be it laid by another or not. -/
def Out (F : Heap) (t : TypeId) (X : T) (v : AV) (m : List Blk) : Prop :=
  Got F t X v m ∨ ∃ G u, F.le G ∧ Row G u X.l ∧ v.den = (AV.agg (cs X u)).den ∧ MemFits m [hpB G]
theorem out_know {f : FuncId} {args : List AV} {F : Heap} {t : TypeId} {m : List Blk} {X : T} (h : NCall Tryz.prog f args m fun v m' => Out F t X v m') :
    NCall Tryz.prog f args m fun v m' => Lays F X v m' := by
  refine Go.Sx.NCall.know h fun r m' hq ⟨w, hw⟩ => ?_
  rcases hq with ⟨G, u, ps, hle, hmap, hall, hr, hm⟩ | ⟨G, u, hle, hrow, hr, hm⟩
  · have hok := ((hm w hw).1.row (List.mem_cons_of_mem _ (List.mem_cons_self ..))).1
    have hrow := rowF_new (F := G) (sz := 4) (enc := psV) hok (psC_den ps) (fun x _ => rfl)
    refine ⟨_, _, hr.symm, hm.trans (MemFits.freeze (m := [])), _, u, hle.trans addF.old, ?_, rfl, rfl⟩
    rw [← hmap]
    exact row_of hrow fun p hp => Row.mono addF.old (hall p hp)
  · exact ⟨_, _, hr.symm, hm, G, u, hle, hrow, rfl, rfl⟩
theorem fits_mk {k f v : Int} {l : List T} (h : fits (.mk k f v l) = true) : (k = 3 ∧ (0 ≤ f ∧ f ≤ 5) ∧ (0 ≤ v ∧ v ≤ top f) ∧ l.length = 0 ∨ (k = 1 ∨ k = 2) ∧ f = 0 ∧ v = 0 ∧ l.length = 0 ∨ k = 4 ∧ f = 0 ∧ v = 0 ∧ l.length = 1 ∨ (k = 5 ∨ k = 6) ∧ f = 0 ∧ v = 0 ∧ 2 ≤ l.length ∧ l.length ≤ 8) ∧ ∀ x ∈ l, fits x = true := by
  rw [fits, Bool.and_eq_true, fitsL_iff] at h
  have h1 := h.1
  unfold shape at h1
  rw [decide_eq_true_eq] at h1
  exact ⟨h1, h.2⟩
theorem size_mk (k f v : Int) (l : List T) : size (.mk k f v l) = 1 + sizeL l := by rw [size]
end Pd
end Go.Proofs.YtpkjnmddembkjaaGreatDoor

