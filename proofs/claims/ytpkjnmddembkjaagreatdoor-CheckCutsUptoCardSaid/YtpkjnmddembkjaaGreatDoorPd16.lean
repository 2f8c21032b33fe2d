/-
  Conditions: the numbers with which a field is asked, rising: by the program, by the document.
-/
import Derived.Test.YtpkjnmddembkjaaGreatDoorPd15
namespace Go.Proofs.YtpkjnmddembkjaaGreatDoor
open Go.Sx
set_option maxRecDepth 20000
set_option linter.unusedSimpArgs false
set_option linter.unusedVariables false
set_option maxHeartbeats 4000000
set_option linter.unusedVariables false
/-- What is laid by a call: numbers in a slice. -/
abbrev Srt.Lays (F : Heap) (l : List Int) (r : AV) (m : List Blk) : Prop := ∃ F' v, F.le F' ∧ Srt.Row F' v l ∧ r = .hs v l.length ∧ m = [hpB F']
theorem Values26_c (F : Heap) (p : Pd.T) (u : Value) (f : Int) (hf : -9223372036854775808 ≤ f ∧ f ≤ 9223372036854775807) (hs : Pd.size p ≤ 2932031007402) (hu : Pd.Row F u p.l) :
    NCall Tryz.prog 28 [.agg (Pd.cs p u), .int .i64 f] [hpB F] fun r m => Srt.Lays F (Pd.values f p) r m := by
  have hln := Pd.vals_len f p
  have c1 := values26_c f hf 3 rfl _ F p u [] (.slice none 0 0) (Nat.le_refl _) (by simpa using hs) hu
  have c0 : NCall Tryz.prog 58 [.raw (.slice none 0 0), .agg (Pd.cs p u), .int .i64 f] [hpB F] _ := NCall.rowPre c1 rfl
  rw [List.nil_append] at c0
  clear c1
  have hv := Pd.values_comp f p
  have hsl := Srt.sort_len (Pd.vals f p)
  refine Go.Sx.NCall.know (K := fun r m => ∃ v, r = .raw (Srt.cutTo v (Pd.values f p).length) ∧ MemFits m [hpB F, ⟨addrOf v, Srt.av (Srt.comped (Srt.sort (Pd.vals f p))), .row v 3 1 (Pd.vals f p).length⟩]) ?_ fun r m' ⟨v, hr, hm⟩ ⟨w, hw⟩ => ?_
  · rw [← hv]
    have c2 := fun v => sort_c v 3 (Pd.vals f p) (by omega)
    have c3 := fun v => compact_c v 3 (Srt.sort (Pd.vals f p)) (by omega)
    rw [hsl] at c3
    generalize Srt.comped (Srt.sort (Pd.vals f p)) = D2 at *
    generalize (Srt.comp (Srt.sort (Pd.vals f p))).length = n2 at *
    generalize Srt.av (Srt.sort (Pd.vals f p)) = D1 at *
    generalize Srt.av (Pd.vals f p) = D0 at *
    generalize (Pd.vals f p).length = n0 at *
    have hok := hu.ok
    clear hv hsl
    obtain ⟨k, a, v, l⟩ := p
    simp only [pd_cs, Pd.T.l] at *
    refine ncall_of Tryz.func28 rfl (by decide) ?_
    (repeat' (first|(with_reducible first|(refine hK _ _ ?_;clear hK K)|(refine hK _ ?_;clear hK K))|((with_reducible refine gO ?_);(first|((with_reducible refine z25 ?_);intro K hK;(conv=>whnf))|(with_reducible refine z0 ?_)))|((first|((with_reducible refine gH ?_);((with_reducible refine NH.mk ?s ?_);case s=>(and_intros<;>with_reducible rfl)))|((with_reducible refine gC ?_);(first|((with_reducible refine NCall.isF 58 ?_);refine NCall.subw [0] _ _ (c0) rfl (by decide) rfl ?_; rintro _ _ ⟨w', rfl, rfl⟩; refine ⟨Nat.le_of_ble_eq_true rfl, .sl 2 w' n0, rfl, ?_⟩)|((with_reducible refine NCall.isF 59 ?_);refine NCall.subE [2] (c2 _) rfl (by decide) rfl rfl ?_)|((with_reducible refine NCall.isF 60 ?_);refine NCall.subE [2] (c3 _) rfl (by decide) rfl rfl ?_))))<;>(conv=>whnf))|((with_reducible refine gX ?_);((with_reducible first|refine z3 ?_|refine z4 ?_|refine z8 ?_)))|(with_reducible first|refine z1 ?_|refine z2 ?_)|((with_reducible refine gR ?_);((refine z31 rfl ?_);intro K hK;(conv=>whnf)))|((with_reducible refine gF ?_);((refine z33 rfl ?_);intro K hK;(conv=>whnf)))|((intro _;skip)<;>(conv=>whnf))))
    all_goals exact ⟨_, rfl, MemFits.pick [0, 2] (by decide) rfl⟩
  · have hok := ((hm w hw).1.row (List.mem_cons_of_mem _ (List.mem_cons_self ..))).1
    rw [← hsl, ← Srt.comped_len] at hok
    have hrow := rowF_new (F := F) (sz := 1) (enc := Srt.V) hok (Srt.av_flat _) (fun x _ => rfl)
    obtain ⟨h1, h2⟩ := Srt.row_cut hrow
    rw [hv] at h1 h2
    exact ⟨_, _, by rw [hr]; exact h2.symm, hm.trans (MemFits.freeze (m := [])), _, _, addF.old, h1, rfl, rfl⟩
/-- Numbers that were made in a row of one's own lie among what is read alone. -/
theorem Srt.know {f : FuncId} {args : List AV} {F : Heap} {t : TypeId} {m : List Blk} {l : List Int} (h : NCall Tryz.prog f args m fun r m' => ∃ v, r.den = slOf v ∧ MemFits m' [hpB F, ⟨addrOf v, Srt.av l, .row v t 1 l.length⟩]) :
    NCall Tryz.prog f args m fun r m' => Srt.Lays F l r m' := by
  refine Go.Sx.NCall.know h fun r m' ⟨v, hr, hm⟩ ⟨w, hw⟩ => ?_
  have hok := ((hm w hw).1.row (List.mem_cons_of_mem _ (List.mem_cons_self ..))).1
  have hrow := rowF_new (F := F) (sz := 1) (enc := Srt.V) hok (Srt.av_flat _) (fun x _ => rfl)
  exact ⟨.hs v l.length, _, hr.symm, hm.trans (MemFits.freeze (m := [])), _, v, addF.old, hrow, rfl, rfl⟩
end Go.Proofs.YtpkjnmddembkjaaGreatDoor

