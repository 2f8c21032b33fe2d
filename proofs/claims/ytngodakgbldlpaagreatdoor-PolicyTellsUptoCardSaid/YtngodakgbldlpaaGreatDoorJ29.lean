import Derived.Test.YtngodakgbldlpaaGreatDoorJ15
import Derived.Test.YtngodakgbldlpaaGreatDoorJ12
import Derived.Test.YtngodakgbldlpaaGreatDoorJ3
namespace Go.Proofs.YtngodakgbldlpaaGreatDoor
open Go.Sx
set_option maxRecDepth 20000
set_option linter.unusedSimpArgs false
set_option linter.unusedVariables false
set_option maxHeartbeats 4000000
set_option linter.unusedVariables false
abbrev Srt.Lays (F : Heap) (l : List Int) (r : AV) (m : List Blk) : Prop := ∃ F' v, F.le F' ∧ Srt.Row F' v l ∧ r = .hs v l.length ∧ m = [hpB F']
theorem Values26_c (F : Heap) (p : Pd.T) (u : Value) (f : Int) (hf : -9223372036854775808 ≤ f ∧ f ≤ 9223372036854775807) (hs : Pd.size p ≤ 2932031007402) (hu : Pd.Row F u p.l) :
    NCall Tryz.prog 77 [.agg (Pd.cs p u), .int .i64 f] [hpB F] fun r m => Srt.Lays F (Pd.values f p) r m := by
  have hln := Pd.vals_len f p
  have c1 := values26_c f hf 3 rfl _ F p u [] (.slice none 0 0) (Nat.le_refl _) (by simpa using hs) hu
  have c0 : NCall Tryz.prog 97 [.raw (.slice none 0 0), .agg (Pd.cs p u), .int .i64 f] [hpB F] _ := NCall.rowPre c1 rfl
  rw [List.nil_append] at c0
  clear c1
  have hv := Pd.values_comp f p
  have hsl := Srt.sort_len (Pd.vals f p)
  refine Go.Sx.NCall.know (K := fun r m => ∃ v, r = .raw (Srt.cutTo v (Pd.values f p).length) ∧ MemFits m [hpB F, ⟨addrOf v, Srt.av (Srt.comped (Srt.sort (Pd.vals f p))), .row v 3 1 (Pd.vals f p).length⟩]) ?_ fun r m' ⟨v, hr, hm⟩ ⟨w, hw⟩ => ?_
  · rw [← hv]
    have c2 := fun v => sort_c v 3 (Pd.vals f p) (by omega)
    have c3 := fun v => compact_c v 3 (Srt.sort (Pd.vals f p)) (by omega)
    rw [hsl] at c3
    generalize Srt.comped (Srt.sort (Pd.vals f p)) = D2 at *
    generalize (Srt.comp (Srt.sort (Pd.vals f p))).length = n2 at *
    generalize Srt.av (Srt.sort (Pd.vals f p)) = D1 at *
    generalize Srt.av (Pd.vals f p) = D0 at *
    generalize (Pd.vals f p).length = n0 at *
    have hok := hu.ok
    clear hv hsl
    obtain ⟨k, a, v, l⟩ := p
    simp only [pd_cs, Pd.T.l] at *
    refine ncall_of Tryz.func77 rfl (by decide) ?_
    (repeat' (first|(with_reducible first|(refine hK _ _ ?_;clear hK K)|(refine hK _ ?_;clear hK K))|((with_reducible refine gO ?_);(first|((with_reducible refine z25 ?_);intro K hK;(conv=>whnf))|(with_reducible refine z0 ?_)))|((first|((with_reducible refine gH ?_;refine NH.mk ?s ?_);case s=>(and_intros<;>with_reducible rfl))|((with_reducible refine gC ?_);(first|((with_reducible refine NCall.isF 97 ?_);refine NCall.subw [0] _ _ (c0) rfl (by decide) rfl ?_; rintro _ _ ⟨w', rfl, rfl⟩; refine ⟨Nat.le_of_ble_eq_true rfl, .sl 2 w' n0, rfl, ?_⟩)|((with_reducible refine NCall.isF 49 ?_);refine NCall.subE [2] (c2 _) rfl (by decide) rfl rfl ?_)|((with_reducible refine NCall.isF 50 ?_);refine NCall.subE [2] (c3 _) rfl (by decide) rfl rfl ?_))))<;>(conv=>whnf))|(with_reducible refine gX ?_;first|refine z3 ?_|refine z4 ?_|refine z8 ?_)|(with_reducible first|refine z1 ?_|refine z2 ?_)|((with_reducible refine gR ?_);((refine z31 rfl ?_);intro K hK;(conv=>whnf)))|((with_reducible refine gF ?_);((refine z33 rfl ?_);intro K hK;(conv=>whnf)))|((intro _;skip)<;>(conv=>whnf))))
    all_goals exact ⟨_, rfl, MemFits.pick [0, 2] (by decide) rfl⟩
  · have hok := ((hm w hw).1.row (List.mem_cons_of_mem _ (List.mem_cons_self ..))).1
    rw [← hsl, ← Srt.comped_len] at hok
    have hrow := rowF_new (F := F) (sz := 1) (enc := Srt.V) hok (Srt.av_flat _) (fun x _ => rfl)
    obtain ⟨h1, h2⟩ := Srt.row_cut hrow
    rw [hv] at h1 h2
    exact ⟨_, _, by rw [hr]; exact h2.symm, hm.trans (MemFits.freeze (m := [])), _, _, addF.old, h1, rfl, rfl⟩
theorem asks26_c (F : Heap) (f w : Int) (hf : -9223372036854775808 ≤ f ∧ f ≤ 9223372036854775807) : ∀ (n : Nat) (p : Pd.T) (u : Value), Pd.size p ≤ n → Pd.size p ≤ 4611686018427387904 → Pd.Row F u p.l →
    NCall Tryz.prog 80 [.agg (Pd.cs p u), .int .i64 f, .int .i64 w] [hpB F] fun r m => r = .bool (decide (w ∈ Pd.vals f p)) ∧ m = [hpB F]
  | 0, p, u, hn, _, _ => absurd (Pd.size_pos p) (by omega)
  | n + 1, ⟨k, a, v, l⟩, u, hn, hs, hu => by
    refine NCall.fits (K := fun r m => r = .bool (decide (w ∈ Pd.vals f (.mk k a v l))) ∧ MemFits m [hpB F]) ?_ fun r m' h => ⟨r, _, rfl, h.2, h.1, rfl⟩
    have hu : Pd.Row F u l := hu
    have hok := hu.ok
    have e2 : Pd.size (.mk k a v l) = 1 + Pd.sizeL l := by rw [Pd.size]
    have hll := Pd.length_le l
    have ih : ∀ x ∈ l, ∀ A, Pd.Row F A x.l → NCall Tryz.prog 80 [.agg (Pd.cs x A), .int .i64 f, .int .i64 w] [hpB F] fun r m => r = .bool (decide (w ∈ Pd.vals f x)) ∧ m = [hpB F] :=
      fun x hx A hA => asks26_c F f w hf n x A (by have := Pd.size_lt (k := k) (f := a) (v := v) hx; omega) (by have := Pd.size_lt (k := k) (f := a) (v := v) hx; omega) hA
    refine ncall_of Tryz.func80 rfl (by decide) ?_
    rw [pd_cs, Pd.vals]
    by_cases h1 : k = 3 ∧ a = f ∧ v = w
    · obtain ⟨rfl, rfl, rfl⟩ := h1
      (repeat' (first|(with_reducible first|(refine hK _ _ ?_;clear hK K)|(refine hA ?_;clear hA hB A B)|(refine hK _ ?_;clear hK K))|((with_reducible refine gO ?_);(first|((with_reducible first|refine z25 ?_|refine z26 ?_);intro K hK;(conv=>whnf))|(with_reducible refine z0 ?_)))|((first|((with_reducible refine gI ?_);((((with_reducible refine NIf.yes ?s ?_);case s=>(simp ;done)))))|(with_reducible refine gN ?_;refine NN.a5 ?_)|((with_reducible refine gH ?_;refine NH.mk ?s ?_);case s=>(and_intros<;>with_reducible rfl)))<;>(conv=>whnf))|((with_reducible refine gX ?_);(first|(with_reducible first|refine z3 ?_|refine z4 ?_|refine z8 ?_)|((with_reducible refine z29 ?_);intro A B hA hB;(conv=>whnf))))|(with_reducible first|refine z1 ?_|refine z2 ?_|refine z12 ?_)|((with_reducible refine gR ?_);((refine z31 rfl ?_);intro K hK;(conv=>whnf)))|((with_reducible refine gF ?_);((refine z33 rfl ?_);intro K hK;(conv=>whnf)))|((intro _;skip)<;>(conv=>whnf))))
      all_goals exact ⟨by simp, MemFits.pre 1 rfl⟩
    · have e : decide (w ∈ (if k = 3 ∧ a = f then [v] else []) ++ Pd.valsL f l) = decide (w ∈ Pd.valsL f l) := by
        congr 1
        rw [List.mem_append]
        refine propext ⟨fun h => h.resolve_left fun h => ?_, .inr⟩
        split at h
        · rename_i hk
          exact h1 ⟨hk.1, hk.2, (List.mem_singleton.1 h).symm⟩
        · simp at h
      rw [e]
      by_cases hk : k = 3
      · by_cases ha : a = f
        · have hv : v ≠ w := fun e => h1 ⟨hk, ha, e⟩
          subst ha hk
          (repeat' (first|(with_reducible first|(refine hK _ _ ?_;clear hK K)|(refine hB ?_;clear hA hB A B)|(refine hK _ ?_;clear hK K))|((with_reducible refine gO ?_);(first|((with_reducible first|refine z25 ?_|refine z26 ?_);intro K hK;(conv=>whnf))|(with_reducible refine z0 ?_)))|((first|((with_reducible refine gI ?_);(first|(((with_reducible refine NIf.yes ?s ?_);case s=>(simp [hv];done)))|(((with_reducible refine NIf.no ?s ?_);case s=>(simp [hv];done)))))|(with_reducible refine gN ?_;refine NN.a5 ?_)|((with_reducible refine gH ?_;refine NH.mk ?s ?_);case s=>(and_intros<;>with_reducible rfl)))<;>(conv=>whnf))|((with_reducible refine gX ?_);(first|(with_reducible first|refine z3 ?_|refine z4 ?_|refine z5 ?_|refine z6 ?_)|((with_reducible refine z29 ?_);intro A B hA hB;(conv=>whnf))))|(with_reducible first|refine z1 ?_|refine z2 ?_)|((with_reducible refine gF ?_);((refine z33 rfl ?_);intro K hK;(conv=>whnf)))|((intro _;skip)<;>(conv=>whnf))))
          refine st_auto (α := Nat) (fun i => i ≤ l.length ∧ ¬ w ∈ Pd.valsL a (l.take i)) (fun i => [.keep, .keep, .keep, .keep, .keep, .keep, .set (.bool false), .set (.int .i64 i), .keep, .keep, .keep, .keep, .keep, .keep, .keep, .keep, .keep, .keep, .keep, .keep, .keep, .keep, .keep, .drop, .drop, .drop, .drop, .drop, .drop, .drop, .drop, .drop, .drop, .drop, .drop, .drop, .drop, .drop]) (fun _ => []) (fun i => l.length - i) 0 ⟨Nat.zero_le _, by simp [Pd.valsL]⟩ ?_ (MemFits.eq rfl) ?_
          · repeat (first|exact FitsSl.nil|refine FitsSl.any ?_|refine FitsSl.cons (Fit1.int (by first | rfl | omega)) ?_|refine FitsSl.cons (Fit1.bool rfl) ?_|refine FitsSl.cons (Fit1.same (by intro h; cases h) (by with_reducible rfl)) ?_)
          (intro i ⟨hi, hno⟩; intro K hK; (conv=>whnf); refine hK _ _ ?_; clear hK K)
          by_cases hlt : i < l.length
          · have hx : l[i]? = some l[i] := List.getElem?_eq_getElem hlt
            obtain ⟨A, cap, hA, c0, c1, c2, c3⟩ := hu.get hx
            have hmem := List.mem_of_getElem? hx
            have c := ih _ hmem _ hA
            have hnx := Pd.valsL_take a hlt
            have hyes : w ∈ Pd.vals a l[i] → w ∈ Pd.valsL a l := fun hw => by
              have e := Pd.valsL_append a (l.take (i + 1)) (l.drop (i + 1))
              rw [List.take_append_drop, hnx] at e
              rw [e]
              exact List.mem_append_left _ (List.mem_append_right _ hw)
            have hnext : ¬ w ∈ Pd.vals a l[i] → ¬ w ∈ Pd.valsL a (l.take (i + 1)) := fun h1 h2 => by
              rw [hnx] at h2
              rcases List.mem_append.1 h2 with h2 | h2
              · exact hno h2
              · exact h1 h2
            clear ih e hnx
            generalize l[i] = x at *
            by_cases hw : w ∈ Pd.vals a x
            · rw [decide_eq_true hw] at c
              have hy := hyes hw
              clear hyes hnext hw
              obtain ⟨xk, xf, xv, xl⟩ := x
              simp only [Pd.cs, Pd.T.k, Pd.T.f, Pd.T.v, Pd.T.l] at c c0 c1 c2 c3 hA
              (repeat' (first|(with_reducible first|(refine hK _ _ ?_;clear hK K)|(refine hA ?_;clear hA hB A B)|(refine hK _ ?_;clear hK K))|((with_reducible refine gO ?_);(first|((with_reducible refine z25 ?_);intro K hK;(conv=>whnf))|(with_reducible refine z0 ?_)))|((first|((with_reducible refine gI ?_);(first|((with_reducible refine NIf.decY ?s ?_);case s=>omega)|((with_reducible refine NIf.yes ?s ?_);case s=>rfl)))|(with_reducible refine gN ?_;first|refine NN.cast ?_|refine NN.a5 ?_|refine NN.keep ?_)|((with_reducible refine gH ?_;refine NH.mk ?s ?_);case s=>(and_intros<;>first|with_reducible rfl|omega))|((with_reducible refine gC ?_;refine NCall.isF 80 ?_);refine NCall.subE [0] (c) rfl (by decide) rfl rfl ?_)|(with_reducible refine NLd.of (by with_reducible assumption) ?_))<;>(conv=>whnf))|((with_reducible refine gX ?_);(first|(with_reducible first|refine z3 ?_|refine z4 ?_|refine z5 ?_|refine z6 ?_|refine z8 ?_)|((with_reducible refine z29 ?_);intro A B hA hB;(conv=>whnf))))|(with_reducible first|refine z1 ?_|refine z2 ?_|refine z12 ?_|refine z13 ?_|refine z20 ?_)|((with_reducible refine gR ?_);((refine z31 rfl ?_);intro K hK;(conv=>whnf)))))
              all_goals exact ⟨by rw [decide_eq_true hy], MemFits.pre 1 rfl⟩
            · rw [decide_eq_false hw] at c
              have hy := hnext hw
              clear hyes hnext hw
              obtain ⟨xk, xf, xv, xl⟩ := x
              simp only [Pd.cs, Pd.T.k, Pd.T.f, Pd.T.v, Pd.T.l] at c c0 c1 c2 c3 hA
              (repeat' (first|(with_reducible first|(refine hK _ _ ?_;clear hK K)|(refine hA ?_;clear hA hB A B)|(refine hB ?_;clear hA hB A B))|((with_reducible refine gO ?_);(first|((with_reducible refine z25 ?_);intro K hK;(conv=>whnf))|(with_reducible refine z0 ?_)))|((first|((with_reducible refine gV ?_);(((with_reducible refine NV.i64 ?s ?_);case s=>omega)))|((with_reducible refine gI ?_);(first|((with_reducible refine NIf.decY ?s ?_);case s=>omega)|((with_reducible refine NIf.no ?s ?_);case s=>rfl)))|(with_reducible refine gN ?_;first|refine NN.cast ?_|refine NN.a5 ?_|refine NN.keep ?_)|((with_reducible refine gH ?_;refine NH.mk ?s ?_);case s=>(and_intros<;>first|with_reducible rfl|omega))|((with_reducible refine gC ?_;refine NCall.isF 80 ?_);refine NCall.subE [0] (c) rfl (by decide) rfl rfl ?_)|(with_reducible refine NLd.of (by with_reducible assumption) ?_))<;>(conv=>whnf))|((with_reducible refine gX ?_);(first|(with_reducible first|refine z3 ?_|refine z4 ?_|refine z5 ?_|refine z6 ?_)|((with_reducible refine z29 ?_);intro A B hA hB;(conv=>whnf))))|(with_reducible first|refine z1 ?_|refine z2 ?_|refine z9 ?_)))
              refine st_round (i + 1) ⟨hlt, hy⟩ (by omega) ?_ (MemFits.eq rfl)
              repeat (first|exact FitsSl.nil|refine FitsSl.any ?_|refine FitsSl.cons (Fit1.int (by first | rfl | omega)) ?_|refine FitsSl.cons (Fit1.bool rfl) ?_|refine FitsSl.cons (Fit1.same (by intro h; cases h) (by with_reducible rfl)) ?_)
          · have hkl : i = l.length := by omega
            subst hkl
            rw [List.take_length] at hno
            (repeat' (first|(with_reducible first|(refine hK _ _ ?_;clear hK K)|(refine hB ?_;clear hA hB A B)|(refine hK _ ?_;clear hK K))|((with_reducible refine gO ?_);(first|((with_reducible refine z25 ?_);intro K hK;(conv=>whnf))|(with_reducible refine z0 ?_)))|((first|((with_reducible refine gI ?_);(((with_reducible refine NIf.decN ?s ?_);case s=>omega)))|(with_reducible refine gN ?_;refine NN.a5 ?_)|((with_reducible refine gH ?_;refine NH.mk ?s ?_);case s=>(and_intros<;>first|with_reducible rfl|omega)))<;>(conv=>whnf))|((with_reducible refine gX ?_);(first|(with_reducible first|refine z3 ?_|refine z4 ?_|refine z7 ?_|refine z8 ?_)|((with_reducible refine z29 ?_);intro A B hA hB;(conv=>whnf))))|(with_reducible first|refine z1 ?_|refine z2 ?_|refine z10 ?_|refine z11 ?_|refine z19 ?_)|((with_reducible refine gR ?_);((refine z31 rfl ?_);intro K hK;(conv=>whnf)))))
            all_goals exact ⟨by rw [decide_eq_false hno], MemFits.pre 1 rfl⟩
        · (repeat' (first|(with_reducible first|(refine hK _ _ ?_;clear hK K)|(refine hB ?_;clear hA hB A B)|(refine hK _ ?_;clear hK K))|((with_reducible refine gO ?_);(first|((with_reducible first|refine z25 ?_|refine z26 ?_);intro K hK;(conv=>whnf))|(with_reducible refine z0 ?_)))|((first|((with_reducible refine gI ?_);(first|((with_reducible refine NIf.decY ?s ?_);case s=>assumption)|((with_reducible refine NIf.decN ?s ?_);case s=>assumption)|((with_reducible refine NIf.no ?s ?_);case s=>rfl)))|(with_reducible refine gN ?_;refine NN.a5 ?_)|((with_reducible refine gH ?_;refine NH.mk ?s ?_);case s=>(and_intros<;>with_reducible rfl)))<;>(conv=>whnf))|((with_reducible refine gX ?_);(first|(with_reducible first|refine z3 ?_|refine z4 ?_|refine z5 ?_|refine z6 ?_)|((with_reducible refine z29 ?_);intro A B hA hB;(conv=>whnf))))|(with_reducible first|refine z1 ?_|refine z2 ?_)|((with_reducible refine gF ?_);((refine z33 rfl ?_);intro K hK;(conv=>whnf)))|((intro _;skip)<;>(conv=>whnf))))
          refine st_auto (α := Nat) (fun i => i ≤ l.length ∧ ¬ w ∈ Pd.valsL f (l.take i)) (fun i => [.keep, .keep, .keep, .keep, .keep, .keep, .set (.bool false), .set (.int .i64 i), .keep, .keep, .keep, .keep, .keep, .keep, .keep, .keep, .keep, .keep, .keep, .keep, .keep, .keep, .keep, .drop, .drop, .drop, .drop, .drop, .drop, .drop, .drop, .drop, .drop, .drop, .drop, .drop, .drop, .drop]) (fun _ => []) (fun i => l.length - i) 0 ⟨Nat.zero_le _, by simp [Pd.valsL]⟩ ?_ (MemFits.eq rfl) ?_
          · repeat (first|exact FitsSl.nil|refine FitsSl.any ?_|refine FitsSl.cons (Fit1.int (by first | rfl | omega)) ?_|refine FitsSl.cons (Fit1.bool rfl) ?_|refine FitsSl.cons (Fit1.same (by intro h; cases h) (by with_reducible rfl)) ?_)
          (intro i ⟨hi, hno⟩; intro K hK; (conv=>whnf); refine hK _ _ ?_; clear hK K)
          by_cases hlt : i < l.length
          · have hx : l[i]? = some l[i] := List.getElem?_eq_getElem hlt
            obtain ⟨A, cap, hA, c0, c1, c2, c3⟩ := hu.get hx
            have hmem := List.mem_of_getElem? hx
            have c := ih _ hmem _ hA
            have hnx := Pd.valsL_take f hlt
            have hyes : w ∈ Pd.vals f l[i] → w ∈ Pd.valsL f l := fun hw => by
              have e := Pd.valsL_append f (l.take (i + 1)) (l.drop (i + 1))
              rw [List.take_append_drop, hnx] at e
              rw [e]
              exact List.mem_append_left _ (List.mem_append_right _ hw)
            have hnext : ¬ w ∈ Pd.vals f l[i] → ¬ w ∈ Pd.valsL f (l.take (i + 1)) := fun h1 h2 => by
              rw [hnx] at h2
              rcases List.mem_append.1 h2 with h2 | h2
              · exact hno h2
              · exact h1 h2
            clear ih e hnx
            generalize l[i] = x at *
            by_cases hw : w ∈ Pd.vals f x
            · rw [decide_eq_true hw] at c
              have hy := hyes hw
              clear hyes hnext hw
              obtain ⟨xk, xf, xv, xl⟩ := x
              simp only [Pd.cs, Pd.T.k, Pd.T.f, Pd.T.v, Pd.T.l] at c c0 c1 c2 c3 hA
              (repeat' (first|(with_reducible first|(refine hK _ _ ?_;clear hK K)|(refine hA ?_;clear hA hB A B)|(refine hK _ ?_;clear hK K))|((with_reducible refine gO ?_);(first|((with_reducible refine z25 ?_);intro K hK;(conv=>whnf))|(with_reducible refine z0 ?_)))|((first|((with_reducible refine gI ?_);(first|((with_reducible refine NIf.decY ?s ?_);case s=>omega)|((with_reducible refine NIf.yes ?s ?_);case s=>rfl)))|(with_reducible refine gN ?_;first|refine NN.cast ?_|refine NN.a5 ?_|refine NN.keep ?_)|((with_reducible refine gH ?_;refine NH.mk ?s ?_);case s=>(and_intros<;>first|with_reducible rfl|omega))|((with_reducible refine gC ?_;refine NCall.isF 80 ?_);refine NCall.subE [0] (c) rfl (by decide) rfl rfl ?_)|(with_reducible refine NLd.of (by with_reducible assumption) ?_))<;>(conv=>whnf))|((with_reducible refine gX ?_);(first|(with_reducible first|refine z3 ?_|refine z4 ?_|refine z5 ?_|refine z6 ?_|refine z8 ?_)|((with_reducible refine z29 ?_);intro A B hA hB;(conv=>whnf))))|(with_reducible first|refine z1 ?_|refine z2 ?_|refine z12 ?_|refine z13 ?_|refine z20 ?_)|((with_reducible refine gR ?_);((refine z31 rfl ?_);intro K hK;(conv=>whnf)))))
              all_goals exact ⟨by rw [decide_eq_true hy], MemFits.pre 1 rfl⟩
            · rw [decide_eq_false hw] at c
              have hy := hnext hw
              clear hyes hnext hw
              obtain ⟨xk, xf, xv, xl⟩ := x
              simp only [Pd.cs, Pd.T.k, Pd.T.f, Pd.T.v, Pd.T.l] at c c0 c1 c2 c3 hA
              (repeat' (first|(with_reducible first|(refine hK _ _ ?_;clear hK K)|(refine hA ?_;clear hA hB A B)|(refine hB ?_;clear hA hB A B))|((with_reducible refine gO ?_);(first|((with_reducible refine z25 ?_);intro K hK;(conv=>whnf))|(with_reducible refine z0 ?_)))|((first|((with_reducible refine gV ?_);(((with_reducible refine NV.i64 ?s ?_);case s=>omega)))|((with_reducible refine gI ?_);(first|((with_reducible refine NIf.decY ?s ?_);case s=>omega)|((with_reducible refine NIf.no ?s ?_);case s=>rfl)))|(with_reducible refine gN ?_;first|refine NN.cast ?_|refine NN.a5 ?_|refine NN.keep ?_)|((with_reducible refine gH ?_;refine NH.mk ?s ?_);case s=>(and_intros<;>first|with_reducible rfl|omega))|((with_reducible refine gC ?_;refine NCall.isF 80 ?_);refine NCall.subE [0] (c) rfl (by decide) rfl rfl ?_)|(with_reducible refine NLd.of (by with_reducible assumption) ?_))<;>(conv=>whnf))|((with_reducible refine gX ?_);(first|(with_reducible first|refine z3 ?_|refine z4 ?_|refine z5 ?_|refine z6 ?_)|((with_reducible refine z29 ?_);intro A B hA hB;(conv=>whnf))))|(with_reducible first|refine z1 ?_|refine z2 ?_|refine z9 ?_)))
              refine st_round (i + 1) ⟨hlt, hy⟩ (by omega) ?_ (MemFits.eq rfl)
              repeat (first|exact FitsSl.nil|refine FitsSl.any ?_|refine FitsSl.cons (Fit1.int (by first | rfl | omega)) ?_|refine FitsSl.cons (Fit1.bool rfl) ?_|refine FitsSl.cons (Fit1.same (by intro h; cases h) (by with_reducible rfl)) ?_)
          · have hkl : i = l.length := by omega
            subst hkl
            rw [List.take_length] at hno
            (repeat' (first|(with_reducible first|(refine hK _ _ ?_;clear hK K)|(refine hB ?_;clear hA hB A B)|(refine hK _ ?_;clear hK K))|((with_reducible refine gO ?_);(first|((with_reducible refine z25 ?_);intro K hK;(conv=>whnf))|(with_reducible refine z0 ?_)))|((first|((with_reducible refine gI ?_);(((with_reducible refine NIf.decN ?s ?_);case s=>omega)))|(with_reducible refine gN ?_;refine NN.a5 ?_)|((with_reducible refine gH ?_;refine NH.mk ?s ?_);case s=>(and_intros<;>first|with_reducible rfl|omega)))<;>(conv=>whnf))|((with_reducible refine gX ?_);(first|(with_reducible first|refine z3 ?_|refine z4 ?_|refine z7 ?_|refine z8 ?_)|((with_reducible refine z29 ?_);intro A B hA hB;(conv=>whnf))))|(with_reducible first|refine z1 ?_|refine z2 ?_|refine z10 ?_|refine z11 ?_|refine z19 ?_)|((with_reducible refine gR ?_);((refine z31 rfl ?_);intro K hK;(conv=>whnf)))))
            all_goals exact ⟨by rw [decide_eq_false hno], MemFits.pre 1 rfl⟩
      · (repeat' (first|(with_reducible first|(refine hK _ _ ?_;clear hK K)|(refine hB ?_;clear hA hB A B)|(refine hK _ ?_;clear hK K))|((with_reducible refine gO ?_);(first|((with_reducible first|refine z25 ?_|refine z26 ?_);intro K hK;(conv=>whnf))|(with_reducible refine z0 ?_)))|((first|((with_reducible refine gI ?_);(first|((with_reducible refine NIf.decN ?s ?_);case s=>assumption)|((with_reducible refine NIf.no ?s ?_);case s=>rfl)))|(with_reducible refine gN ?_;refine NN.a5 ?_)|((with_reducible refine gH ?_;refine NH.mk ?s ?_);case s=>(and_intros<;>with_reducible rfl)))<;>(conv=>whnf))|((with_reducible refine gX ?_);(first|(with_reducible first|refine z3 ?_|refine z4 ?_|refine z5 ?_|refine z6 ?_)|((with_reducible refine z29 ?_);intro A B hA hB;(conv=>whnf))))|(with_reducible first|refine z1 ?_|refine z2 ?_)|((with_reducible refine gF ?_);((refine z33 rfl ?_);intro K hK;(conv=>whnf)))|((intro _;skip)<;>(conv=>whnf))))
        refine st_auto (α := Nat) (fun i => i ≤ l.length ∧ ¬ w ∈ Pd.valsL f (l.take i)) (fun i => [.keep, .keep, .keep, .keep, .keep, .keep, .set (.bool false), .set (.int .i64 i), .keep, .keep, .keep, .keep, .keep, .keep, .keep, .keep, .keep, .keep, .keep, .keep, .keep, .keep, .keep, .drop, .drop, .drop, .drop, .drop, .drop, .drop, .drop, .drop, .drop, .drop, .drop, .drop, .drop, .drop]) (fun _ => []) (fun i => l.length - i) 0 ⟨Nat.zero_le _, by simp [Pd.valsL]⟩ ?_ (MemFits.eq rfl) ?_
        · repeat (first|exact FitsSl.nil|refine FitsSl.any ?_|refine FitsSl.cons (Fit1.int (by first | rfl | omega)) ?_|refine FitsSl.cons (Fit1.bool rfl) ?_|refine FitsSl.cons (Fit1.same (by intro h; cases h) (by with_reducible rfl)) ?_)
        (intro i ⟨hi, hno⟩; intro K hK; (conv=>whnf); refine hK _ _ ?_; clear hK K)
        by_cases hlt : i < l.length
        · have hx : l[i]? = some l[i] := List.getElem?_eq_getElem hlt
          obtain ⟨A, cap, hA, c0, c1, c2, c3⟩ := hu.get hx
          have hmem := List.mem_of_getElem? hx
          have c := ih _ hmem _ hA
          have hnx := Pd.valsL_take f hlt
          have hyes : w ∈ Pd.vals f l[i] → w ∈ Pd.valsL f l := fun hw => by
            have e := Pd.valsL_append f (l.take (i + 1)) (l.drop (i + 1))
            rw [List.take_append_drop, hnx] at e
            rw [e]
            exact List.mem_append_left _ (List.mem_append_right _ hw)
          have hnext : ¬ w ∈ Pd.vals f l[i] → ¬ w ∈ Pd.valsL f (l.take (i + 1)) := fun h1 h2 => by
            rw [hnx] at h2
            rcases List.mem_append.1 h2 with h2 | h2
            · exact hno h2
            · exact h1 h2
          clear ih e hnx
          generalize l[i] = x at *
          by_cases hw : w ∈ Pd.vals f x
          · rw [decide_eq_true hw] at c
            have hy := hyes hw
            clear hyes hnext hw
            obtain ⟨xk, xf, xv, xl⟩ := x
            simp only [Pd.cs, Pd.T.k, Pd.T.f, Pd.T.v, Pd.T.l] at c c0 c1 c2 c3 hA
            (repeat' (first|(with_reducible first|(refine hK _ _ ?_;clear hK K)|(refine hA ?_;clear hA hB A B)|(refine hK _ ?_;clear hK K))|((with_reducible refine gO ?_);(first|((with_reducible refine z25 ?_);intro K hK;(conv=>whnf))|(with_reducible refine z0 ?_)))|((first|((with_reducible refine gI ?_);(first|((with_reducible refine NIf.decY ?s ?_);case s=>omega)|((with_reducible refine NIf.yes ?s ?_);case s=>rfl)))|(with_reducible refine gN ?_;first|refine NN.cast ?_|refine NN.a5 ?_|refine NN.keep ?_)|((with_reducible refine gH ?_;refine NH.mk ?s ?_);case s=>(and_intros<;>first|with_reducible rfl|omega))|((with_reducible refine gC ?_;refine NCall.isF 80 ?_);refine NCall.subE [0] (c) rfl (by decide) rfl rfl ?_)|(with_reducible refine NLd.of (by with_reducible assumption) ?_))<;>(conv=>whnf))|((with_reducible refine gX ?_);(first|(with_reducible first|refine z3 ?_|refine z4 ?_|refine z5 ?_|refine z6 ?_|refine z8 ?_)|((with_reducible refine z29 ?_);intro A B hA hB;(conv=>whnf))))|(with_reducible first|refine z1 ?_|refine z2 ?_|refine z12 ?_|refine z13 ?_|refine z20 ?_)|((with_reducible refine gR ?_);((refine z31 rfl ?_);intro K hK;(conv=>whnf)))))
            all_goals exact ⟨by rw [decide_eq_true hy], MemFits.pre 1 rfl⟩
          · rw [decide_eq_false hw] at c
            have hy := hnext hw
            clear hyes hnext hw
            obtain ⟨xk, xf, xv, xl⟩ := x
            simp only [Pd.cs, Pd.T.k, Pd.T.f, Pd.T.v, Pd.T.l] at c c0 c1 c2 c3 hA
            (repeat' (first|(with_reducible first|(refine hK _ _ ?_;clear hK K)|(refine hA ?_;clear hA hB A B)|(refine hB ?_;clear hA hB A B))|((with_reducible refine gO ?_);(first|((with_reducible refine z25 ?_);intro K hK;(conv=>whnf))|(with_reducible refine z0 ?_)))|((first|((with_reducible refine gV ?_);(((with_reducible refine NV.i64 ?s ?_);case s=>omega)))|((with_reducible refine gI ?_);(first|((with_reducible refine NIf.decY ?s ?_);case s=>omega)|((with_reducible refine NIf.no ?s ?_);case s=>rfl)))|(with_reducible refine gN ?_;first|refine NN.cast ?_|refine NN.a5 ?_|refine NN.keep ?_)|((with_reducible refine gH ?_;refine NH.mk ?s ?_);case s=>(and_intros<;>first|with_reducible rfl|omega))|((with_reducible refine gC ?_;refine NCall.isF 80 ?_);refine NCall.subE [0] (c) rfl (by decide) rfl rfl ?_)|(with_reducible refine NLd.of (by with_reducible assumption) ?_))<;>(conv=>whnf))|((with_reducible refine gX ?_);(first|(with_reducible first|refine z3 ?_|refine z4 ?_|refine z5 ?_|refine z6 ?_)|((with_reducible refine z29 ?_);intro A B hA hB;(conv=>whnf))))|(with_reducible first|refine z1 ?_|refine z2 ?_|refine z9 ?_)))
            refine st_round (i + 1) ⟨hlt, hy⟩ (by omega) ?_ (MemFits.eq rfl)
            repeat (first|exact FitsSl.nil|refine FitsSl.any ?_|refine FitsSl.cons (Fit1.int (by first | rfl | omega)) ?_|refine FitsSl.cons (Fit1.bool rfl) ?_|refine FitsSl.cons (Fit1.same (by intro h; cases h) (by with_reducible rfl)) ?_)
        · have hkl : i = l.length := by omega
          subst hkl
          rw [List.take_length] at hno
          (repeat' (first|(with_reducible first|(refine hK _ _ ?_;clear hK K)|(refine hB ?_;clear hA hB A B)|(refine hK _ ?_;clear hK K))|((with_reducible refine gO ?_);(first|((with_reducible refine z25 ?_);intro K hK;(conv=>whnf))|(with_reducible refine z0 ?_)))|((first|((with_reducible refine gI ?_);(((with_reducible refine NIf.decN ?s ?_);case s=>omega)))|(with_reducible refine gN ?_;refine NN.a5 ?_)|((with_reducible refine gH ?_;refine NH.mk ?s ?_);case s=>(and_intros<;>first|with_reducible rfl|omega)))<;>(conv=>whnf))|((with_reducible refine gX ?_);(first|(with_reducible first|refine z3 ?_|refine z4 ?_|refine z7 ?_|refine z8 ?_)|((with_reducible refine z29 ?_);intro A B hA hB;(conv=>whnf))))|(with_reducible first|refine z1 ?_|refine z2 ?_|refine z10 ?_|refine z11 ?_|refine z19 ?_)|((with_reducible refine gR ?_);((refine z31 rfl ?_);intro K hK;(conv=>whnf)))))
          all_goals exact ⟨by rw [decide_eq_false hno], MemFits.pre 1 rfl⟩
theorem same13_c (F : Heap) (a b : List Int) (u v : Value) (hu : Srt.Row F u a) (hv : Srt.Row F v b) (ha : a.length ≤ 4611686018427387904) (hb : b.length ≤ 4611686018427387904) :
    NCall Tryz.prog 25 [.hs u a.length, .hs v b.length] [hpB F] fun r m => r = .bool (decide (a = b)) ∧ m = [hpB F] := by
  refine NCall.fits (K := fun r m => r = .bool (decide (a = b)) ∧ MemFits m [hpB F]) ?_ fun r m' h => ⟨r, _, rfl, h.2, h.1, rfl⟩
  have hok := hu.ok
  have hok2 := hv.ok
  refine ncall_of Tryz.func25 rfl (by decide) ?_
  by_cases hl : a.length = b.length
  · rw [hl] at hok ⊢
    (repeat' (first|(with_reducible first|(refine hK _ _ ?_;clear hK K)|(refine hB ?_;clear hA hB A B)|(refine hK _ ?_;clear hK K))|((with_reducible refine gO ?_);(first|((with_reducible refine z25 ?_);intro K hK;(conv=>whnf))|(with_reducible refine z0 ?_)))|((first|((with_reducible refine gI ?_);((((with_reducible refine NIf.no ?s ?_);case s=>(simp ;done)))))|((with_reducible refine gH ?_;refine NH.mk ?s ?_);case s=>(and_intros<;>omega)))<;>(conv=>whnf))|((with_reducible refine gX ?_);(first|(with_reducible first|refine z3 ?_|refine z4 ?_|refine z5 ?_|refine z6 ?_)|((with_reducible refine z29 ?_);intro A B hA hB;(conv=>whnf))))|(with_reducible first|refine z1 ?_|refine z2 ?_)|((with_reducible refine gF ?_);((refine z33 rfl ?_);intro K hK;(conv=>whnf)))))
    refine st_auto (α := Nat) (fun i => i ≤ b.length ∧ a.take i = b.take i) (fun i => [.keep, .keep, .keep, .keep, .set (.bool false), .set (.int .i64 i), .keep, .keep, .keep, .keep, .keep, .drop, .drop, .drop, .drop, .drop, .drop, .drop, .drop, .drop, .drop, .drop, .drop, .drop, .drop, .drop]) (fun _ => []) (fun i => b.length - i) 0 ⟨Nat.zero_le _, rfl⟩ ?_ (MemFits.eq rfl) ?_
    · repeat (first|exact FitsSl.nil|refine FitsSl.any ?_|refine FitsSl.cons (Fit1.int (by first | rfl | omega)) ?_|refine FitsSl.cons (Fit1.bool rfl) ?_|refine FitsSl.cons (Fit1.same (by intro h; cases h) (by with_reducible rfl)) ?_)
    (intro i ⟨hi, heq⟩; intro K hK; (conv=>whnf); refine hK _ _ ?_; clear hK K)
    by_cases hlt : i < b.length
    · have hx : a[i]? = some (a[i]'(by omega)) := List.getElem?_eq_getElem (by omega)
      have hy : b[i]? = some b[i] := List.getElem?_eq_getElem hlt
      obtain ⟨_, rfl, _, c0, _⟩ := hu.at_ i _ hx
      obtain ⟨_, rfl, _, d0, _⟩ := hv.at_ i _ hy
      rw [Nat.mul_one] at c0 d0
      have hnx : a[i]'(by omega) = b[i] → a.take (i + 1) = b.take (i + 1) := fun e => by rw [List.take_add_one, List.take_add_one, hx, hy, heq, e]
      have hno : a[i]'(by omega) ≠ b[i] → a ≠ b := fun e h => by subst h; exact e rfl
      generalize a[i]'(by omega) = x at *
      generalize b[i] = y at *
      by_cases hxy : x = y
      · subst hxy
        (repeat' (first|(with_reducible first|(refine hK _ _ ?_;clear hK K)|(refine hA ?_;clear hA hB A B)|(refine hB ?_;clear hA hB A B)|(refine hK _ ?_;clear hK K))|((with_reducible refine gO ?_);(first|((with_reducible refine z25 ?_);intro K hK;(conv=>whnf))|(with_reducible refine z0 ?_)))|((first|((with_reducible refine gV ?_);(((with_reducible refine NV.i64 ?s ?_);case s=>omega)))|((with_reducible refine gI ?_);(first|(((with_reducible refine NIf.no ?s ?_);case s=>(simp ;done)))|((with_reducible refine NIf.decY ?s ?_);case s=>omega)))|(with_reducible refine gN ?_;first|refine NN.cast ?_|refine NN.a2 ?_)|((with_reducible refine gH ?_;refine NH.mk ?s ?_);case s=>(and_intros<;>omega))|(with_reducible refine NLd.of (by with_reducible assumption) ?_))<;>(conv=>whnf))|(with_reducible refine gNRK ?_;refine st_ordSout ?_)|((with_reducible refine gNOK ?_);(first|(refine st_ordK1 rfl (by kernel_rfl) rfl ?_; intro K hK; (conv=>whnf))|(refine st_ordK0 rfl (by kernel_rfl) ?_)))|((with_reducible refine gX ?_);(first|(refine st_orderS [] rfl rfl (by kernel_rfl) _ rfl ?_)|(with_reducible first|refine z3 ?_|refine z4 ?_|refine z5 ?_|refine z6 ?_)|((with_reducible refine z29 ?_);intro A B hA hB;(conv=>whnf))))|(with_reducible first|refine z1 ?_|refine z2 ?_|refine z9 ?_)))
        all_goals refine st_round (i + 1) ⟨hlt, hnx rfl⟩ (by omega) ?_ (MemFits.eq rfl)
        all_goals repeat (first|exact FitsSl.nil|refine FitsSl.any ?_|refine FitsSl.cons (Fit1.int (by first | rfl | omega)) ?_|refine FitsSl.cons (Fit1.bool rfl) ?_|refine FitsSl.cons (Fit1.same (by intro h; cases h) (by with_reducible rfl)) ?_)
      · (repeat' (first|(with_reducible first|(refine hK _ _ ?_;clear hK K)|(refine hA ?_;clear hA hB A B)|(refine hK _ ?_;clear hK K))|((with_reducible refine gO ?_);(first|((with_reducible refine z25 ?_);intro K hK;(conv=>whnf))|(with_reducible refine z0 ?_)))|((first|((with_reducible refine gI ?_);(first|(((with_reducible refine NIf.yes ?s ?_);case s=>(simp [hxy];done)))|((with_reducible refine NIf.decY ?s ?_);case s=>omega)))|(with_reducible refine gN ?_;first|refine NN.cast ?_|refine NN.a2 ?_)|((with_reducible refine gH ?_;refine NH.mk ?s ?_);case s=>(and_intros<;>omega))|(with_reducible refine NLd.of (by with_reducible assumption) ?_))<;>(conv=>whnf))|(with_reducible refine gNRK ?_;refine st_ordSout ?_)|((with_reducible refine gNOK ?_);(first|(refine st_ordK1 rfl (by kernel_rfl) rfl ?_; intro K hK; (conv=>whnf))|(refine st_ordK0 rfl (by kernel_rfl) ?_)))|((with_reducible refine gX ?_);(first|(refine st_orderS [] rfl rfl (by kernel_rfl) _ rfl ?_)|(with_reducible first|refine z3 ?_|refine z4 ?_|refine z5 ?_|refine z6 ?_|refine z8 ?_)|((with_reducible refine z29 ?_);intro A B hA hB;(conv=>whnf))))|(with_reducible first|refine z1 ?_|refine z2 ?_|refine z12 ?_|refine z13 ?_|refine z20 ?_)|((with_reducible refine gR ?_);((refine z31 rfl ?_);intro K hK;(conv=>whnf)))))
        all_goals exact ⟨by rw [decide_eq_false (hno hxy)], MemFits.pre 1 rfl⟩
    · have hkl : i = b.length := by omega
      subst hkl
      rw [List.take_length, ← hl, List.take_length] at heq
      (repeat' (first|(with_reducible first|(refine hK _ _ ?_;clear hK K)|(refine hB ?_;clear hA hB A B)|(refine hK _ ?_;clear hK K))|((with_reducible refine gO ?_);(first|((with_reducible refine z25 ?_);intro K hK;(conv=>whnf))|(with_reducible refine z0 ?_)))|((first|((with_reducible refine gI ?_);(((with_reducible refine NIf.decN ?s ?_);case s=>omega)))|((with_reducible refine gH ?_;refine NH.mk ?s ?_);case s=>(and_intros<;>omega)))<;>(conv=>whnf))|((with_reducible refine gX ?_);(first|(with_reducible first|refine z3 ?_|refine z4 ?_|refine z7 ?_|refine z8 ?_)|((with_reducible refine z29 ?_);intro A B hA hB;(conv=>whnf))))|(with_reducible first|refine z1 ?_|refine z2 ?_|refine z10 ?_|refine z11 ?_|refine z19 ?_)|((with_reducible refine gR ?_);((refine z31 rfl ?_);intro K hK;(conv=>whnf)))))
      all_goals exact ⟨by rw [heq]; simp, MemFits.pre 1 rfl⟩
  · (repeat' (first|(with_reducible first|(refine hK _ _ ?_;clear hK K)|(refine hA ?_;clear hA hB A B)|(refine hK _ ?_;clear hK K))|((with_reducible refine gO ?_);(first|((with_reducible refine z25 ?_);intro K hK;(conv=>whnf))|(with_reducible refine z0 ?_)))|((first|((with_reducible refine gI ?_);(first|with_reducible refine NIf.not_ ?_|((with_reducible refine NIf.decN ?s ?_);case s=>omega)))|((with_reducible refine gH ?_;refine NH.mk ?s ?_);case s=>(and_intros<;>omega)))<;>(conv=>whnf))|((with_reducible refine gX ?_);(first|(with_reducible first|refine z3 ?_|refine z4 ?_|refine z8 ?_)|((with_reducible refine z29 ?_);intro A B hA hB;(conv=>whnf))))|(with_reducible first|refine z1 ?_|refine z2 ?_|refine z12 ?_)|((with_reducible refine gR ?_);((refine z31 rfl ?_);intro K hK;(conv=>whnf)))|((with_reducible refine gF ?_);((refine z33 rfl ?_);intro K hK;(conv=>whnf)))))
    all_goals first
      | exact ⟨by rw [decide_eq_false (fun e => hl (by rw [e]))], MemFits.pre 1 rfl⟩
      | (exfalso; omega)
theorem Srt.know {f : FuncId} {args : List AV} {F : Heap} {t : TypeId} {m : List Blk} {l : List Int} (h : NCall Tryz.prog f args m fun r m' => ∃ v, r.den = slOf v ∧ MemFits m' [hpB F, ⟨addrOf v, Srt.av l, .row v t 1 l.length⟩]) :
    NCall Tryz.prog f args m fun r m' => Srt.Lays F l r m' := by
  refine Go.Sx.NCall.know h fun r m' ⟨v, hr, hm⟩ ⟨w, hw⟩ => ?_
  have hok := ((hm w hw).1.row (List.mem_cons_of_mem _ (List.mem_cons_self ..))).1
  have hrow := rowF_new (F := F) (sz := 1) (enc := Srt.V) hok (Srt.av_flat _) (fun x _ => rfl)
  exact ⟨.hs v l.length, _, hr.symm, hm.trans (MemFits.freeze (m := [])), _, v, addF.old, hrow, rfl, rfl⟩
end Go.Proofs.YtngodakgbldlpaaGreatDoor
namespace Go.Proofs.YtngodakgbldlpaaGreatDoor
open Go.Sx
set_option maxRecDepth 20000
set_option linter.unusedSimpArgs false
set_option linter.unusedVariables false
set_option maxHeartbeats 4000000
set_option linter.unusedVariables false
namespace Po
structure L where
  x : T
  pu : Value
  u : Value
def psC (ps : List L) : List AV := ps.flatMap fun p => cs p.x p.pu p.u
def psV (p : L) : List Value := denL (cs p.x p.pu p.u)
theorem psC_den : ∀ ps, denL (psC ps) = ps.flatMap psV
  | [] => rfl
  | p :: ps => by
    have := psC_den ps
    unfold psC at *
    rw [List.flatMap_cons, List.flatMap_cons, denL_append, this]
    rfl
theorem psC_len (ps : List L) : (psC ps).length = ps.length * 8 := by
  induction ps with
  | nil => rfl
  | cons p ps ih =>
    unfold psC at *
    rw [List.flatMap_cons, List.length_append, ih, List.length_cons]
    show 8 + _ = _
    omega
theorem psC_next (ps : List L) (p : L) : psC (ps ++ [p]) = psC ps ++ cs p.x p.pu p.u := by
  unfold psC
  rw [List.flatMap_append]
  simp
def Got (F : Heap) (t : TypeId) (X : T) (v : AV) (m : List Blk) : Prop :=
  ∃ G pu u, ∃ ps : List L, F.le G ∧ ps.map (·.x) = X.l ∧ (∀ p ∈ ps, At G p.x p.pu p.u) ∧ Pd.Row G pu X.p.l ∧ v.den = (AV.agg (cs X pu u)).den ∧ MemFits m [hpB G, ⟨addrOf u, psC ps, .row u t 8 ps.length⟩]
theorem row_of {G : Heap} {u : Value} {ps : List L} (h : RowF G 8 (fun p vs => vs = psV p) u ps) (hall : ∀ p ∈ ps, At G p.x p.pu p.u) : Row G u (ps.map (·.x)) := by
  refine ⟨by rw [List.length_map]; exact h.ok, fun k x hx => ?_⟩
  rw [List.getElem?_map] at hx
  cases hp : ps[k]? with
  | none => rw [hp] at hx; cases hx
  | some p =>
    rw [hp] at hx
    simp only [Option.map_some, Option.some.injEq] at hx
    subst hx
    obtain ⟨vs, h1, h2, h3⟩ := h.at_ k p hp
    have hr := hall p (List.mem_of_getElem? hp)
    refine ⟨vs, ?_, h2, h3⟩
    obtain ⟨A, cap, hv, hle, hz⟩ := hr.l.ok
    obtain ⟨pA, pcap, hpv, hple, hpz⟩ := hr.p.ok
    rw [h1]
    obtain ⟨x, pw, w⟩ := p
    dsimp only at hv hpv hr ⊢
    subst hv hpv
    exact R.of hr
abbrev Lays (F : Heap) (X : T) (r : AV) (m : List Blk) : Prop := ∃ F' pu u, F.le F' ∧ At F' X pu u ∧ r = .agg (cs X pu u) ∧ m = [hpB F']
theorem got_know {f : FuncId} {args : List AV} {F : Heap} {t : TypeId} {m : List Blk} {X : T} (h : NCall Tryz.prog f args m fun v m' => Got F t X v m') :
    NCall Tryz.prog f args m fun v m' => Lays F X v m' := by
  refine Go.Sx.NCall.know h fun r m' ⟨G, pu, u, ps, hle, hmap, hall, hpr, hr, hm⟩ ⟨w, hw⟩ => ?_
  have hok := ((hm w hw).1.row (List.mem_cons_of_mem _ (List.mem_cons_self ..))).1
  have hrow := rowF_new (F := G) (sz := 8) (enc := psV) hok (psC_den ps) (fun x _ => rfl)
  refine ⟨_, _, hr.symm, hm.trans (MemFits.freeze (m := [])), _, pu, u, hle.trans addF.old, ⟨Pd.Row.mono addF.old hpr, ?_⟩, rfl, rfl⟩
  rw [← hmap]
  exact row_of hrow fun p hp => At.mono addF.old (hall p hp)
end Po
theorem mine27_c : ∀ (n : Nat) (F : Heap) (x : Po.T) (pu u : Value), Po.tot x ≤ n → Po.tot x ≤ 1466015503701 → Po.At F x pu u →
    NCall Tryz.prog 9 [.agg (Po.cs x pu u)] [hpB F] fun r m => Po.Lays F x r m
  | 0, F, x, pu, u, hn, _, _ => absurd (Po.tot_pos x) (by omega)
  | n + 1, F, ⟨k, p, f, v, l⟩, pu, u, hn, hs, hx => by
    refine Po.got_know (t := 38) ?_
    have hu : Po.Row F u l := hx.l
    have hpu : Pd.Row F pu p.l := hx.p
    have hok := hu.ok
    have hpok := hpu.ok
    have e2 := Po.tot_mk k p f v l
    have hll := Po.length_le l
    have ih : ∀ G, ∀ y ∈ l, ∀ pw w, Po.At G y pw w → NCall Tryz.prog 9 [.agg (Po.cs y pw w)] [hpB G] fun r m => Po.Lays G y r m := fun G y hy pw w hw => mine27_c n G y pw w (by have := Po.tot_lt (k := k) (q := p) (f := f) (v := v) hy; omega) (by have := Po.tot_lt (k := k) (q := p) (f := f) (v := v) hy; omega) hw
    have cp := mine26_c _ F p pu (Nat.le_refl _) (by omega) hpu
    have hln : l.length ≤ 1466015503701 := by omega
    clear hx hs hn e2 hll
    rw [po_cs]
    obtain ⟨pk, pf, pv, pl⟩ := p
    simp only [Pd.Lays, pd_cs, Pd.T.k, Pd.T.f, Pd.T.v, Pd.T.l] at *
    refine ncall_of Tryz.func9 rfl (by decide) ?_
    (repeat' (first|(with_reducible first|(refine hK _ _ ?_;clear hK K)|(refine hK _ ?_;clear hK K))|((with_reducible refine gO ?_);(first|((with_reducible refine z25 ?_);intro K hK;(conv=>whnf))|(with_reducible refine z0 ?_)))|((first|(with_reducible refine gN ?_;refine NN.a5 ?_)|((with_reducible refine gH ?_;refine NH.mk ?s ?_);case s=>(and_intros<;>first|with_reducible rfl|((with_reducible refine gOnes ?_);rfl)|((with_reducible refine gLen ?_);rfl)|((with_reducible refine gKept ?_);exact rfl)|rfl))|((with_reducible refine gC ?_;refine NCall.isF 10 ?_);refine NCall.subw [0] _ _ (cp) rfl (by decide) rfl ?_; rintro _ _ ⟨F1, pu1, hle1, hpu1, rfl, rfl⟩; refine ⟨Nat.le_of_ble_eq_true rfl, _, rfl, ?_⟩))<;>(conv=>whnf))|(with_reducible refine gNRK ?_;refine st_ordSout ?_)|((with_reducible refine gNOK ?_);(first|(refine st_ordK1 rfl (by kernel_rfl) rfl ?_; intro K hK; (conv=>whnf))|(refine st_ordK0 rfl (by kernel_rfl) ?_)|(refine st_ordKA rfl rfl (by kernel_rfl) (by intro h; cases h) ?_)))|((with_reducible refine gNEK ?_);(first|(refine st_eachK ?_ ?_; (intro K hK; (conv=>whnf)))|exact st_eachK0))|((with_reducible refine gX ?_);(first|(refine st_orderS [0, 3] rfl rfl (by kernel_rfl) _ rfl ?_)|(with_reducible first|refine z3 ?_|refine z4 ?_|refine z5 ?_)))|(with_reducible first|refine z1 ?_|refine z2 ?_)|((with_reducible refine gF ?_);((refine z33 rfl ?_);intro K hK;(conv=>whnf)))|((intro _;skip)<;>(conv=>whnf))))
    all_goals
      have hpok1 := hpu1.ok
      refine st_auto (α := Heap × Value × List Po.L) (fun (G, w, ps) => F1.le G ∧ ps.map (·.x) = l.take ps.length ∧ ps.length ≤ l.length ∧ ∀ p ∈ ps, Po.At G p.x p.pu p.u) (fun (G, w, ps) => [.keep, .keep, .keep, .keep, .set (.int .i64 ps.length), .keep, .keep, .keep, .keep, .keep, .keep, .keep, .keep, .keep, .keep, .drop, .drop, .drop, .drop, .drop, .drop, .drop, .drop, .drop, .drop, .drop, .drop, .drop, .drop, .drop, .drop, .drop, .drop, .keep])
        (fun (G, w, ps) => [.set (hpB G), .keep, .keep, .cells [.int .i64 k, .int .i64 pk, .int .i64 pf, .int .i64 pv, .hs pu1 pl.length, .int .i64 f, .int .i64 v, .sl 4 w ps.length], .set ⟨addrOf w, Po.psC ps, .row w 38 8 ps.length⟩]) (fun (G, w, ps) => l.length - ps.length) (F1, .slice none 0 0, []) ⟨F1.le_refl, rfl, Nat.zero_le _, fun p hp => by simp at hp⟩ ?_ ((MemFits.nilRow _ 38 8).trans (MemFits.congr rfl)) ?_
      · repeat (first|exact FitsSl.nil|refine FitsSl.any ?_|refine FitsSl.cons (Fit1.int (by first | rfl | omega)) ?_|refine FitsSl.cons (Fit1.same (by intro h; cases h) (by with_reducible rfl)) ?_)
      (intro ⟨G, w, ps⟩ ⟨hle, hmap, hlen, hall⟩; intro K hK; (conv=>whnf); refine hK _ _ ?_; clear hK K)
      dsimp only
      generalize hk : ps.length = i at *
      by_cases hlt : i < l.length
      · have hx : l[i]? = some l[i] := List.getElem?_eq_getElem hlt
        obtain ⟨pA, pcap, A, cap, hA, c0, c1, c2, c3, c4, c5, c6, c7⟩ := (Po.Row.mono (hle1.trans hle) hu).get hx
        have hAo := hA.l.ok
        have hAp := hA.p.ok
        have hmem := List.mem_of_getElem? hx
        have c := ih G _ hmem _ _ hA
        have hnx : l.take (i + 1) = l.take i ++ [l[i]] := by rw [List.take_add_one, hx]; rfl
        clear ih
        generalize l[i] = y at *
        have hpl := Po.psC_len ps
        have hpn := Po.psC_next ps
        generalize hpc : Po.psC ps = pc at *
        obtain ⟨yk, ⟨ypk, ypf, ypv, ypl⟩, yf, yv, yl⟩ := y
        simp only [Po.Lays, Po.cs, Po.T.k, Po.T.p, Po.T.f, Po.T.v, Po.T.l, Pd.T.k, Pd.T.f, Pd.T.v, Pd.T.l] at c c0 c1 c2 c3 c4 c5 c6 c7 hAo hAp
        (repeat' (first|(with_reducible first|(refine hK _ _ ?_;clear hK K)|(refine hA ?_;clear hA hB A B)|(refine hK _ ?_;clear hK K))|((with_reducible refine gO ?_);(first|((with_reducible refine z25 ?_);intro K hK;(conv=>whnf))|(with_reducible refine z0 ?_)))|((first|((with_reducible refine gV ?_);(((with_reducible refine NV.i64 ?s ?_);case s=>omega)))|((with_reducible refine gI ?_);(((with_reducible refine NIf.decY ?s ?_);case s=>omega)))|(with_reducible refine gN ?_;first|refine NN.cast ?_|refine NN.a5 ?_|refine NN.keep ?_)|((with_reducible refine gH ?_;refine NH.mk ?s ?_);case s=>(and_intros<;>first|with_reducible rfl|((with_reducible refine gOnes ?_);rfl)|((with_reducible refine gLen ?_);rfl)|omega))|((with_reducible refine gC ?_;refine NCall.isF 9 ?_);refine NCall.subw [0] _ _ (c) rfl (by decide) rfl ?_; rintro _ _ ⟨G', pw', w', hle2, hrow, rfl, rfl⟩; refine ⟨Nat.le_of_ble_eq_true rfl, _, rfl, ?_⟩)|(with_reducible refine NLd.of (by with_reducible assumption) ?_))<;>(conv=>whnf))|((with_reducible refine gNO ?_);(first|(refine z36 rfl (by kernel_rfl) ?_; intro K hK; (conv=>whnf))|(refine z38 rfl (by kernel_rfl) ?_)|(refine z39 rfl rfl (by kernel_rfl) (by intro h; cases h) ?_)))|((with_reducible refine gNE ?_);(first|(refine z40 ?_ ?_; (intro K hK; (conv=>whnf)))|exact z42))|((with_reducible refine gX ?_);(first|(refine z35 (by kernel_rfl) _ rfl ?_)|(with_reducible first|refine z3 ?_|refine z4 ?_|refine z5 ?_|refine z6 ?_)|((with_reducible refine z29 ?_);intro A B hA hB;(conv=>whnf))))|(with_reducible first|refine z1 ?_|refine z2 ?_|refine z9 ?_)|((intro _;skip)<;>(conv=>whnf))))
        all_goals
          rename_i v9
          refine st_round (G', v9, ps ++ [⟨.mk yk (.mk ypk ypf ypv ypl) yf yv yl, pw', w'⟩]) ⟨hle.trans hle2, by rw [List.map_append, hmap, List.length_append, hk]; exact hnx.symm, by rw [List.length_append, hk]; exact hlt, fun x hx => ?_⟩ (by rw [List.length_append, hk]; show l.length - (i + 1) < l.length - i; omega) ?_ (MemFits.pre 5 ?_)
          · rcases List.mem_append.1 hx with hx | hx
            · exact Po.At.mono hle2 (hall x hx)
            · rw [List.mem_singleton.1 hx]; exact hrow
          · simp only [List.length_append, hk]
            repeat (first|exact FitsSl.nil|refine FitsSl.any ?_|refine FitsSl.cons (Fit1.int (by first | rfl | omega)) ?_|refine FitsSl.cons (Fit1.same (by intro h; cases h) (by with_reducible rfl)) ?_)
          · simp only [autoM, List.take, List.length_append, hk, hpn]
            rw [show i + [(⟨.mk yk (.mk ypk ypf ypv ypl) yf yv yl, pw', w'⟩ : Po.L)].length = i + 1 from rfl]
            rfl
      · have hkl : i = l.length := by omega
        subst hkl
        clear ih cp
        (repeat' (first|(with_reducible first|(refine hK _ _ ?_;clear hK K)|(refine hB ?_;clear hA hB A B)|(refine hK _ ?_;clear hK K))|((with_reducible refine gO ?_);(first|((with_reducible refine z25 ?_);intro K hK;(conv=>whnf))|(with_reducible refine z0 ?_)))|((first|((with_reducible refine gI ?_);(((with_reducible refine NIf.decN ?s ?_);case s=>omega)))|(with_reducible refine gN ?_;refine NN.a5 ?_)|((with_reducible refine gH ?_;refine NH.mk ?s ?_);case s=>(and_intros<;>first|with_reducible rfl|((with_reducible refine gOnes ?_);rfl)|((with_reducible refine gLen ?_);rfl)|omega)))<;>(conv=>whnf))|((with_reducible refine gX ?_);(first|(with_reducible first|refine z3 ?_|refine z4 ?_|refine z7 ?_|refine z8 ?_)|((with_reducible refine z29 ?_);intro A B hA hB;(conv=>whnf))))|(with_reducible first|refine z1 ?_|refine z2 ?_|refine z10 ?_|refine z11 ?_|refine z19 ?_)|((with_reducible refine gR ?_);((refine z31 rfl ?_);intro K hK;(conv=>whnf)))))
        all_goals exact ⟨G, pu1, w, ps, hle1.trans hle, by rw [hmap, List.take_length]; rfl, hall, Pd.Row.mono hle hpu1, rfl, by rw [hk]; exact MemFits.pick [0, 4] (by decide) rfl⟩
theorem has27_c (F : Heap) (f w : Int) (hf : -9223372036854775808 ≤ f ∧ f ≤ 9223372036854775807) : ∀ (n : Nat) (x : Po.T) (pu u : Value), Po.tot x ≤ n → Po.tot x ≤ 4611686018427387904 → Po.At F x pu u →
    NCall Tryz.prog 52 [.agg (Po.cs x pu u), .int .i64 f, .int .i64 w] [hpB F] fun r m => r = .bool (decide (w ∈ Po.vals f x)) ∧ m = [hpB F]
  | 0, x, pu, u, hn, _, _ => absurd (Po.tot_pos x) (by omega)
  | n + 1, ⟨k, p, a, v, l⟩, pu, u, hn, hs, hx => by
    refine NCall.fits (K := fun r m => r = .bool (decide (w ∈ Po.vals f (.mk k p a v l))) ∧ MemFits m [hpB F]) ?_ fun r m' h => ⟨r, _, rfl, h.2, h.1, rfl⟩
    have hu : Po.Row F u l := hx.l
    have hpu : Pd.Row F pu p.l := hx.p
    have hok := hu.ok
    have hpok := hpu.ok
    have e2 := Po.tot_mk k p a v l
    have hll := Po.length_le l
    have ih : ∀ y ∈ l, ∀ pA A, Po.At F y pA A → NCall Tryz.prog 52 [.agg (Po.cs y pA A), .int .i64 f, .int .i64 w] [hpB F] fun r m => r = .bool (decide (w ∈ Po.vals f y)) ∧ m = [hpB F] :=
      fun y hy pA A hA => has27_c F f w hf n y pA A (by have := Po.tot_lt (k := k) (q := p) (f := a) (v := v) hy; omega) (by have := Po.tot_lt (k := k) (q := p) (f := a) (v := v) hy; omega) hA
    have ca := asks26_c F f w hf _ p pu (Nat.le_refl _) (by omega) hpu
    have hln : l.length ≤ 4611686018427387904 := by omega
    have e : (w ∈ Po.vals f (.mk k p a v l)) ↔ (k = 2 ∧ a = f ∧ v = w) ∨ w ∈ Pd.vals f p ∨ w ∈ Po.valsL f l := by
      rw [Po.vals, List.mem_append, List.mem_append, Pd.values_mem, or_assoc]
      refine or_congr ?_ Iff.rfl
      split
      · rename_i h
        rw [List.mem_singleton]
        exact ⟨fun e => ⟨h.1, h.2, e.symm⟩, fun e => e.2.2.symm⟩
      · rename_i h
        simp only [List.not_mem_nil, false_iff]
        exact fun e => h ⟨e.1, e.2.1⟩
    have e' : decide (w ∈ Po.vals f (.mk k p a v l)) = decide ((k = 2 ∧ a = f ∧ v = w) ∨ w ∈ Pd.vals f p ∨ w ∈ Po.valsL f l) := decide_eq_decide.2 e
    rw [e']
    clear e e' hx hs hn e2 hll
    rw [po_cs]
    obtain ⟨pk, pf, pv, pl⟩ := p
    simp only [pd_cs, Pd.T.k, Pd.T.f, Pd.T.v, Pd.T.l] at *
    refine ncall_of Tryz.func52 rfl (by decide) ?_
    by_cases h1 : k = 2 ∧ a = f ∧ v = w
    · obtain ⟨rfl, rfl, rfl⟩ := h1
      clear ih
      (repeat' (first|(with_reducible first|(refine hK _ _ ?_;clear hK K)|(refine hA ?_;clear hA hB A B)|(refine hK _ ?_;clear hK K))|((with_reducible refine gO ?_);(first|((with_reducible first|refine z25 ?_|refine z26 ?_);intro K hK;(conv=>whnf))|(with_reducible refine z0 ?_)))|((first|((with_reducible refine gI ?_);((((with_reducible refine NIf.yes ?s ?_);case s=>(simp ;done)))))|(with_reducible refine gN ?_;refine NN.a5 ?_)|((with_reducible refine gH ?_;refine NH.mk ?s ?_);case s=>(and_intros<;>with_reducible rfl)))<;>(conv=>whnf))|((with_reducible refine gX ?_);(first|(with_reducible first|refine z3 ?_|refine z4 ?_|refine z8 ?_)|((with_reducible refine z29 ?_);intro A B hA hB;(conv=>whnf))))|(with_reducible first|refine z1 ?_|refine z2 ?_|refine z12 ?_)|((with_reducible refine gR ?_);((refine z31 rfl ?_);intro K hK;(conv=>whnf)))|((with_reducible refine gF ?_);((refine z33 rfl ?_);intro K hK;(conv=>whnf)))|((intro _;skip)<;>(conv=>whnf))))
      all_goals exact ⟨by simp, MemFits.pre 1 rfl⟩
    by_cases hq : w ∈ Pd.vals f (.mk pk pf pv pl)
    · rw [decide_eq_true hq] at ca
      clear ih
      rw [show decide (k = 2 ∧ a = f ∧ v = w ∨ w ∈ Pd.vals f (.mk pk pf pv pl) ∨ w ∈ Po.valsL f l) = true from decide_eq_true (.inr (.inl hq))]
      by_cases hk : k = 2
      · by_cases ha : a = f
        · have hv : v ≠ w := fun e => h1 ⟨hk, ha, e⟩
          subst hk ha
          (repeat' (first|(with_reducible first|(refine hK _ _ ?_;clear hK K)|(refine hA ?_;clear hA hB A B)|(refine hK _ ?_;clear hK K))|((with_reducible refine gO ?_);(first|((with_reducible first|refine z25 ?_|refine z26 ?_);intro K hK;(conv=>whnf))|(with_reducible refine z0 ?_)))|((first|((with_reducible refine gI ?_);(first|(((with_reducible refine NIf.yes ?s ?_);case s=>(simp [hv];done)))|(((with_reducible refine NIf.no ?s ?_);case s=>(simp [hv];done)))))|(with_reducible refine gN ?_;refine NN.a5 ?_)|((with_reducible refine gH ?_;refine NH.mk ?s ?_);case s=>(and_intros<;>with_reducible rfl))|((with_reducible refine gC ?_;refine NCall.isF 80 ?_);refine NCall.subE [0] (ca) rfl (by decide) rfl rfl ?_))<;>(conv=>whnf))|((with_reducible refine gX ?_);(first|(with_reducible first|refine z3 ?_|refine z4 ?_|refine z8 ?_)|((with_reducible refine z29 ?_);intro A B hA hB;(conv=>whnf))))|(with_reducible first|refine z1 ?_|refine z2 ?_|refine z12 ?_)|((with_reducible refine gR ?_);((refine z31 rfl ?_);intro K hK;(conv=>whnf)))|((with_reducible refine gF ?_);((refine z33 rfl ?_);intro K hK;(conv=>whnf)))|((intro _;skip)<;>(conv=>whnf))))
          all_goals exact ⟨rfl, MemFits.pre 1 rfl⟩
        · (repeat' (first|(with_reducible first|(refine hK _ _ ?_;clear hK K)|(refine hA ?_;clear hA hB A B)|(refine hK _ ?_;clear hK K))|((with_reducible refine gO ?_);(first|((with_reducible first|refine z25 ?_|refine z26 ?_);intro K hK;(conv=>whnf))|(with_reducible refine z0 ?_)))|((first|((with_reducible refine gI ?_);(first|(((with_reducible refine NIf.yes ?s ?_);case s=>(simp [ha];done)))|(((with_reducible refine NIf.no ?s ?_);case s=>(simp [ha];done)))|((with_reducible refine NIf.decY ?s ?_);case s=>assumption)))|(with_reducible refine gN ?_;refine NN.a5 ?_)|((with_reducible refine gH ?_;refine NH.mk ?s ?_);case s=>(and_intros<;>with_reducible rfl))|((with_reducible refine gC ?_;refine NCall.isF 80 ?_);refine NCall.subE [0] (ca) rfl (by decide) rfl rfl ?_))<;>(conv=>whnf))|((with_reducible refine gX ?_);(first|(with_reducible first|refine z3 ?_|refine z4 ?_|refine z8 ?_)|((with_reducible refine z29 ?_);intro A B hA hB;(conv=>whnf))))|(with_reducible first|refine z1 ?_|refine z2 ?_|refine z12 ?_)|((with_reducible refine gR ?_);((refine z31 rfl ?_);intro K hK;(conv=>whnf)))|((with_reducible refine gF ?_);((refine z33 rfl ?_);intro K hK;(conv=>whnf)))|((intro _;skip)<;>(conv=>whnf))))
          all_goals exact ⟨rfl, MemFits.pre 1 rfl⟩
      · (repeat' (first|(with_reducible first|(refine hK _ _ ?_;clear hK K)|(refine hA ?_;clear hA hB A B)|(refine hK _ ?_;clear hK K))|((with_reducible refine gO ?_);(first|((with_reducible first|refine z25 ?_|refine z26 ?_);intro K hK;(conv=>whnf))|(with_reducible refine z0 ?_)))|((first|((with_reducible refine gI ?_);(first|(((with_reducible refine NIf.yes ?s ?_);case s=>(simp [hk];done)))|(((with_reducible refine NIf.no ?s ?_);case s=>(simp [hk];done)))))|(with_reducible refine gN ?_;refine NN.a5 ?_)|((with_reducible refine gH ?_;refine NH.mk ?s ?_);case s=>(and_intros<;>with_reducible rfl))|((with_reducible refine gC ?_;refine NCall.isF 80 ?_);refine NCall.subE [0] (ca) rfl (by decide) rfl rfl ?_))<;>(conv=>whnf))|((with_reducible refine gX ?_);(first|(with_reducible first|refine z3 ?_|refine z4 ?_|refine z8 ?_)|((with_reducible refine z29 ?_);intro A B hA hB;(conv=>whnf))))|(with_reducible first|refine z1 ?_|refine z2 ?_|refine z12 ?_)|((with_reducible refine gR ?_);((refine z31 rfl ?_);intro K hK;(conv=>whnf)))|((with_reducible refine gF ?_);((refine z33 rfl ?_);intro K hK;(conv=>whnf)))|((intro _;skip)<;>(conv=>whnf))))
        all_goals exact ⟨rfl, MemFits.pre 1 rfl⟩
    · rw [decide_eq_false hq] at ca
      rw [show decide (k = 2 ∧ a = f ∧ v = w ∨ w ∈ Pd.vals f (.mk pk pf pv pl) ∨ w ∈ Po.valsL f l) = decide (w ∈ Po.valsL f l) from decide_eq_decide.2 ⟨fun h => (h.resolve_left h1).resolve_left hq, fun h => .inr (.inr h)⟩]
      by_cases hk : k = 2
      · by_cases ha : a = f
        · have hv : v ≠ w := fun e => h1 ⟨hk, ha, e⟩
          subst hk ha
          (repeat' (first|(with_reducible first|(refine hK _ _ ?_;clear hK K)|(refine hB ?_;clear hA hB A B)|(refine hK _ ?_;clear hK K))|((with_reducible refine gO ?_);(first|((with_reducible first|refine z25 ?_|refine z26 ?_);intro K hK;(conv=>whnf))|(with_reducible refine z0 ?_)))|((first|((with_reducible refine gI ?_);(first|(((with_reducible refine NIf.yes ?s ?_);case s=>(simp [hv];done)))|(((with_reducible refine NIf.no ?s ?_);case s=>(simp [hv];done)))))|(with_reducible refine gN ?_;refine NN.a5 ?_)|((with_reducible refine gH ?_;refine NH.mk ?s ?_);case s=>(and_intros<;>with_reducible rfl))|((with_reducible refine gC ?_;refine NCall.isF 80 ?_);refine NCall.subE [0] (ca) rfl (by decide) rfl rfl ?_))<;>(conv=>whnf))|((with_reducible refine gX ?_);(first|(with_reducible first|refine z3 ?_|refine z4 ?_|refine z5 ?_|refine z6 ?_)|((with_reducible refine z29 ?_);intro A B hA hB;(conv=>whnf))))|(with_reducible first|refine z1 ?_|refine z2 ?_)|((with_reducible refine gF ?_);((refine z33 rfl ?_);intro K hK;(conv=>whnf)))|((intro _;skip)<;>(conv=>whnf))))
          refine st_auto (α := Nat) (fun i => i ≤ l.length ∧ ¬ w ∈ Po.valsL a (l.take i)) (fun i => [.keep, .keep, .keep, .keep, .keep, .keep, .set (.bool false), .set (.int .i64 i), .keep, .keep, .keep, .keep, .keep, .keep, .keep, .keep, .keep, .keep, .keep, .keep, .keep, .keep, .keep, .keep, .keep, .keep, .keep, .keep, .keep, .keep, .drop, .drop, .drop, .drop, .drop, .drop, .drop, .drop, .drop, .drop, .drop, .drop, .drop, .drop, .drop]) (fun _ => []) (fun i => l.length - i) 0 ⟨Nat.zero_le _, by simp [Po.valsL]⟩ ?_ (MemFits.eq rfl) ?_
          · repeat (first|exact FitsSl.nil|refine FitsSl.any ?_|refine FitsSl.cons (Fit1.int (by first | rfl | omega)) ?_|refine FitsSl.cons (Fit1.bool rfl) ?_|refine FitsSl.cons (Fit1.same (by intro h; cases h) (by with_reducible rfl)) ?_)
          (intro i ⟨hi, hno⟩; intro K hK; (conv=>whnf); refine hK _ _ ?_; clear hK K)
          by_cases hlt : i < l.length
          · have hx : l[i]? = some l[i] := List.getElem?_eq_getElem hlt
            obtain ⟨pA, pcap, A, cap, hA, c0, c1, c2, c3, c4, c5, c6, c7⟩ := hu.get hx
            have hAo := hA.l.ok
            have hAp := hA.p.ok
            have hmem := List.mem_of_getElem? hx
            have c := ih _ hmem _ _ hA
            have hnx := Po.valsL_take a hlt
            have hyes : w ∈ Po.vals a l[i] → w ∈ Po.valsL a l := fun hw => by
              have e := Po.valsL_append a (l.take (i + 1)) (l.drop (i + 1))
              rw [List.take_append_drop, hnx] at e
              rw [e]
              exact List.mem_append_left _ (List.mem_append_right _ hw)
            have hnext : ¬ w ∈ Po.vals a l[i] → ¬ w ∈ Po.valsL a (l.take (i + 1)) := fun h1 h2 => by
              rw [hnx] at h2
              rcases List.mem_append.1 h2 with h2 | h2
              · exact hno h2
              · exact h1 h2
            clear ih hnx ca
            generalize l[i] = y at *
            by_cases hw : w ∈ Po.vals a y
            · rw [decide_eq_true hw] at c
              have hy := hyes hw
              clear hyes hnext hw
              obtain ⟨yk, ⟨ypk, ypf, ypv, ypl⟩, yf, yv, yl⟩ := y
              simp only [Po.cs, Po.T.k, Po.T.p, Po.T.f, Po.T.v, Po.T.l, Pd.T.k, Pd.T.f, Pd.T.v, Pd.T.l] at c c0 c1 c2 c3 c4 c5 c6 c7 hAo hAp
              (repeat' (first|(with_reducible first|(refine hK _ _ ?_;clear hK K)|(refine hA ?_;clear hA hB A B)|(refine hK _ ?_;clear hK K))|((with_reducible refine gO ?_);(first|((with_reducible refine z25 ?_);intro K hK;(conv=>whnf))|(with_reducible refine z0 ?_)))|((first|((with_reducible refine gI ?_);(first|((with_reducible refine NIf.decY ?s ?_);case s=>omega)|((with_reducible refine NIf.yes ?s ?_);case s=>rfl)))|(with_reducible refine gN ?_;first|refine NN.cast ?_|refine NN.a5 ?_|refine NN.keep ?_)|((with_reducible refine gH ?_;refine NH.mk ?s ?_);case s=>(and_intros<;>first|with_reducible rfl|omega))|((with_reducible refine gC ?_;refine NCall.isF 52 ?_);refine NCall.subE [0] (c) rfl (by decide) rfl rfl ?_)|(with_reducible refine NLd.of (by with_reducible assumption) ?_))<;>(conv=>whnf))|((with_reducible refine gX ?_);(first|(with_reducible first|refine z3 ?_|refine z4 ?_|refine z5 ?_|refine z6 ?_|refine z8 ?_)|((with_reducible refine z29 ?_);intro A B hA hB;(conv=>whnf))))|(with_reducible first|refine z1 ?_|refine z2 ?_|refine z12 ?_|refine z13 ?_|refine z20 ?_)|((with_reducible refine gR ?_);((refine z31 rfl ?_);intro K hK;(conv=>whnf)))))
              all_goals exact ⟨by rw [decide_eq_true hy], MemFits.pre 1 rfl⟩
            · rw [decide_eq_false hw] at c
              have hy := hnext hw
              clear hyes hnext hw
              obtain ⟨yk, ⟨ypk, ypf, ypv, ypl⟩, yf, yv, yl⟩ := y
              simp only [Po.cs, Po.T.k, Po.T.p, Po.T.f, Po.T.v, Po.T.l, Pd.T.k, Pd.T.f, Pd.T.v, Pd.T.l] at c c0 c1 c2 c3 c4 c5 c6 c7 hAo hAp
              (repeat' (first|(with_reducible first|(refine hK _ _ ?_;clear hK K)|(refine hA ?_;clear hA hB A B)|(refine hB ?_;clear hA hB A B))|((with_reducible refine gO ?_);(first|((with_reducible refine z25 ?_);intro K hK;(conv=>whnf))|(with_reducible refine z0 ?_)))|((first|((with_reducible refine gV ?_);(((with_reducible refine NV.i64 ?s ?_);case s=>omega)))|((with_reducible refine gI ?_);(first|((with_reducible refine NIf.decY ?s ?_);case s=>omega)|((with_reducible refine NIf.no ?s ?_);case s=>rfl)))|(with_reducible refine gN ?_;first|refine NN.cast ?_|refine NN.a5 ?_|refine NN.keep ?_)|((with_reducible refine gH ?_;refine NH.mk ?s ?_);case s=>(and_intros<;>first|with_reducible rfl|omega))|((with_reducible refine gC ?_;refine NCall.isF 52 ?_);refine NCall.subE [0] (c) rfl (by decide) rfl rfl ?_)|(with_reducible refine NLd.of (by with_reducible assumption) ?_))<;>(conv=>whnf))|((with_reducible refine gX ?_);(first|(with_reducible first|refine z3 ?_|refine z4 ?_|refine z5 ?_|refine z6 ?_)|((with_reducible refine z29 ?_);intro A B hA hB;(conv=>whnf))))|(with_reducible first|refine z1 ?_|refine z2 ?_|refine z9 ?_)))
              refine st_round (i + 1) ⟨hlt, hy⟩ (by omega) ?_ (MemFits.eq rfl)
              repeat (first|exact FitsSl.nil|refine FitsSl.any ?_|refine FitsSl.cons (Fit1.int (by first | rfl | omega)) ?_|refine FitsSl.cons (Fit1.bool rfl) ?_|refine FitsSl.cons (Fit1.same (by intro h; cases h) (by with_reducible rfl)) ?_)
          · have hkl : i = l.length := by omega
            subst hkl
            rw [List.take_length] at hno
            clear ih
            (repeat' (first|(with_reducible first|(refine hK _ _ ?_;clear hK K)|(refine hB ?_;clear hA hB A B)|(refine hK _ ?_;clear hK K))|((with_reducible refine gO ?_);(first|((with_reducible refine z25 ?_);intro K hK;(conv=>whnf))|(with_reducible refine z0 ?_)))|((first|((with_reducible refine gI ?_);(((with_reducible refine NIf.decN ?s ?_);case s=>omega)))|(with_reducible refine gN ?_;refine NN.a5 ?_)|((with_reducible refine gH ?_;refine NH.mk ?s ?_);case s=>(and_intros<;>first|with_reducible rfl|omega)))<;>(conv=>whnf))|((with_reducible refine gX ?_);(first|(with_reducible first|refine z3 ?_|refine z4 ?_|refine z7 ?_|refine z8 ?_)|((with_reducible refine z29 ?_);intro A B hA hB;(conv=>whnf))))|(with_reducible first|refine z1 ?_|refine z2 ?_|refine z10 ?_|refine z11 ?_|refine z19 ?_)|((with_reducible refine gR ?_);((refine z31 rfl ?_);intro K hK;(conv=>whnf)))))
            all_goals exact ⟨by rw [decide_eq_false hno], MemFits.pre 1 rfl⟩
        · (repeat' (first|(with_reducible first|(refine hK _ _ ?_;clear hK K)|(refine hB ?_;clear hA hB A B)|(refine hK _ ?_;clear hK K))|((with_reducible refine gO ?_);(first|((with_reducible first|refine z25 ?_|refine z26 ?_);intro K hK;(conv=>whnf))|(with_reducible refine z0 ?_)))|((first|((with_reducible refine gI ?_);(first|(((with_reducible refine NIf.no ?s ?_);case s=>(simp [ha];done)))|((with_reducible refine NIf.decY ?s ?_);case s=>assumption)))|(with_reducible refine gN ?_;refine NN.a5 ?_)|((with_reducible refine gH ?_;refine NH.mk ?s ?_);case s=>(and_intros<;>with_reducible rfl))|((with_reducible refine gC ?_;refine NCall.isF 80 ?_);refine NCall.subE [0] (ca) rfl (by decide) rfl rfl ?_))<;>(conv=>whnf))|((with_reducible refine gX ?_);(first|(with_reducible first|refine z3 ?_|refine z4 ?_|refine z5 ?_|refine z6 ?_)|((with_reducible refine z29 ?_);intro A B hA hB;(conv=>whnf))))|(with_reducible first|refine z1 ?_|refine z2 ?_)|((with_reducible refine gF ?_);((refine z33 rfl ?_);intro K hK;(conv=>whnf)))|((intro _;skip)<;>(conv=>whnf))))
          refine st_auto (α := Nat) (fun i => i ≤ l.length ∧ ¬ w ∈ Po.valsL f (l.take i)) (fun i => [.keep, .keep, .keep, .keep, .keep, .keep, .set (.bool false), .set (.int .i64 i), .keep, .keep, .keep, .keep, .keep, .keep, .keep, .keep, .keep, .keep, .keep, .keep, .keep, .keep, .keep, .keep, .keep, .keep, .keep, .keep, .keep, .keep, .drop, .drop, .drop, .drop, .drop, .drop, .drop, .drop, .drop, .drop, .drop, .drop, .drop, .drop, .drop]) (fun _ => []) (fun i => l.length - i) 0 ⟨Nat.zero_le _, by simp [Po.valsL]⟩ ?_ (MemFits.eq rfl) ?_
          · repeat (first|exact FitsSl.nil|refine FitsSl.any ?_|refine FitsSl.cons (Fit1.int (by first | rfl | omega)) ?_|refine FitsSl.cons (Fit1.bool rfl) ?_|refine FitsSl.cons (Fit1.same (by intro h; cases h) (by with_reducible rfl)) ?_)
          (intro i ⟨hi, hno⟩; intro K hK; (conv=>whnf); refine hK _ _ ?_; clear hK K)
          by_cases hlt : i < l.length
          · have hx : l[i]? = some l[i] := List.getElem?_eq_getElem hlt
            obtain ⟨pA, pcap, A, cap, hA, c0, c1, c2, c3, c4, c5, c6, c7⟩ := hu.get hx
            have hAo := hA.l.ok
            have hAp := hA.p.ok
            have hmem := List.mem_of_getElem? hx
            have c := ih _ hmem _ _ hA
            have hnx := Po.valsL_take f hlt
            have hyes : w ∈ Po.vals f l[i] → w ∈ Po.valsL f l := fun hw => by
              have e := Po.valsL_append f (l.take (i + 1)) (l.drop (i + 1))
              rw [List.take_append_drop, hnx] at e
              rw [e]
              exact List.mem_append_left _ (List.mem_append_right _ hw)
            have hnext : ¬ w ∈ Po.vals f l[i] → ¬ w ∈ Po.valsL f (l.take (i + 1)) := fun h1 h2 => by
              rw [hnx] at h2
              rcases List.mem_append.1 h2 with h2 | h2
              · exact hno h2
              · exact h1 h2
            clear ih hnx ca
            generalize l[i] = y at *
            by_cases hw : w ∈ Po.vals f y
            · rw [decide_eq_true hw] at c
              have hy := hyes hw
              clear hyes hnext hw
              obtain ⟨yk, ⟨ypk, ypf, ypv, ypl⟩, yf, yv, yl⟩ := y
              simp only [Po.cs, Po.T.k, Po.T.p, Po.T.f, Po.T.v, Po.T.l, Pd.T.k, Pd.T.f, Pd.T.v, Pd.T.l] at c c0 c1 c2 c3 c4 c5 c6 c7 hAo hAp
              (repeat' (first|(with_reducible first|(refine hK _ _ ?_;clear hK K)|(refine hA ?_;clear hA hB A B)|(refine hK _ ?_;clear hK K))|((with_reducible refine gO ?_);(first|((with_reducible refine z25 ?_);intro K hK;(conv=>whnf))|(with_reducible refine z0 ?_)))|((first|((with_reducible refine gI ?_);(first|((with_reducible refine NIf.decY ?s ?_);case s=>omega)|((with_reducible refine NIf.yes ?s ?_);case s=>rfl)))|(with_reducible refine gN ?_;first|refine NN.cast ?_|refine NN.a5 ?_|refine NN.keep ?_)|((with_reducible refine gH ?_;refine NH.mk ?s ?_);case s=>(and_intros<;>first|with_reducible rfl|omega))|((with_reducible refine gC ?_;refine NCall.isF 52 ?_);refine NCall.subE [0] (c) rfl (by decide) rfl rfl ?_)|(with_reducible refine NLd.of (by with_reducible assumption) ?_))<;>(conv=>whnf))|((with_reducible refine gX ?_);(first|(with_reducible first|refine z3 ?_|refine z4 ?_|refine z5 ?_|refine z6 ?_|refine z8 ?_)|((with_reducible refine z29 ?_);intro A B hA hB;(conv=>whnf))))|(with_reducible first|refine z1 ?_|refine z2 ?_|refine z12 ?_|refine z13 ?_|refine z20 ?_)|((with_reducible refine gR ?_);((refine z31 rfl ?_);intro K hK;(conv=>whnf)))))
              all_goals exact ⟨by rw [decide_eq_true hy], MemFits.pre 1 rfl⟩
            · rw [decide_eq_false hw] at c
              have hy := hnext hw
              clear hyes hnext hw
              obtain ⟨yk, ⟨ypk, ypf, ypv, ypl⟩, yf, yv, yl⟩ := y
              simp only [Po.cs, Po.T.k, Po.T.p, Po.T.f, Po.T.v, Po.T.l, Pd.T.k, Pd.T.f, Pd.T.v, Pd.T.l] at c c0 c1 c2 c3 c4 c5 c6 c7 hAo hAp
              (repeat' (first|(with_reducible first|(refine hK _ _ ?_;clear hK K)|(refine hA ?_;clear hA hB A B)|(refine hB ?_;clear hA hB A B))|((with_reducible refine gO ?_);(first|((with_reducible refine z25 ?_);intro K hK;(conv=>whnf))|(with_reducible refine z0 ?_)))|((first|((with_reducible refine gV ?_);(((with_reducible refine NV.i64 ?s ?_);case s=>omega)))|((with_reducible refine gI ?_);(first|((with_reducible refine NIf.decY ?s ?_);case s=>omega)|((with_reducible refine NIf.no ?s ?_);case s=>rfl)))|(with_reducible refine gN ?_;first|refine NN.cast ?_|refine NN.a5 ?_|refine NN.keep ?_)|((with_reducible refine gH ?_;refine NH.mk ?s ?_);case s=>(and_intros<;>first|with_reducible rfl|omega))|((with_reducible refine gC ?_;refine NCall.isF 52 ?_);refine NCall.subE [0] (c) rfl (by decide) rfl rfl ?_)|(with_reducible refine NLd.of (by with_reducible assumption) ?_))<;>(conv=>whnf))|((with_reducible refine gX ?_);(first|(with_reducible first|refine z3 ?_|refine z4 ?_|refine z5 ?_|refine z6 ?_)|((with_reducible refine z29 ?_);intro A B hA hB;(conv=>whnf))))|(with_reducible first|refine z1 ?_|refine z2 ?_|refine z9 ?_)))
              refine st_round (i + 1) ⟨hlt, hy⟩ (by omega) ?_ (MemFits.eq rfl)
              repeat (first|exact FitsSl.nil|refine FitsSl.any ?_|refine FitsSl.cons (Fit1.int (by first | rfl | omega)) ?_|refine FitsSl.cons (Fit1.bool rfl) ?_|refine FitsSl.cons (Fit1.same (by intro h; cases h) (by with_reducible rfl)) ?_)
          · have hkl : i = l.length := by omega
            subst hkl
            rw [List.take_length] at hno
            clear ih
            (repeat' (first|(with_reducible first|(refine hK _ _ ?_;clear hK K)|(refine hB ?_;clear hA hB A B)|(refine hK _ ?_;clear hK K))|((with_reducible refine gO ?_);(first|((with_reducible refine z25 ?_);intro K hK;(conv=>whnf))|(with_reducible refine z0 ?_)))|((first|((with_reducible refine gI ?_);(((with_reducible refine NIf.decN ?s ?_);case s=>omega)))|(with_reducible refine gN ?_;refine NN.a5 ?_)|((with_reducible refine gH ?_;refine NH.mk ?s ?_);case s=>(and_intros<;>first|with_reducible rfl|omega)))<;>(conv=>whnf))|((with_reducible refine gX ?_);(first|(with_reducible first|refine z3 ?_|refine z4 ?_|refine z7 ?_|refine z8 ?_)|((with_reducible refine z29 ?_);intro A B hA hB;(conv=>whnf))))|(with_reducible first|refine z1 ?_|refine z2 ?_|refine z10 ?_|refine z11 ?_|refine z19 ?_)|((with_reducible refine gR ?_);((refine z31 rfl ?_);intro K hK;(conv=>whnf)))))
            all_goals exact ⟨by rw [decide_eq_false hno], MemFits.pre 1 rfl⟩
      · (repeat' (first|(with_reducible first|(refine hK _ _ ?_;clear hK K)|(refine hB ?_;clear hA hB A B)|(refine hK _ ?_;clear hK K))|((with_reducible refine gO ?_);(first|((with_reducible first|refine z25 ?_|refine z26 ?_);intro K hK;(conv=>whnf))|(with_reducible refine z0 ?_)))|((first|((with_reducible refine gI ?_);((((with_reducible refine NIf.no ?s ?_);case s=>(simp [hk];done)))))|(with_reducible refine gN ?_;refine NN.a5 ?_)|((with_reducible refine gH ?_;refine NH.mk ?s ?_);case s=>(and_intros<;>with_reducible rfl))|((with_reducible refine gC ?_;refine NCall.isF 80 ?_);refine NCall.subE [0] (ca) rfl (by decide) rfl rfl ?_))<;>(conv=>whnf))|((with_reducible refine gX ?_);(first|(with_reducible first|refine z3 ?_|refine z4 ?_|refine z5 ?_|refine z6 ?_)|((with_reducible refine z29 ?_);intro A B hA hB;(conv=>whnf))))|(with_reducible first|refine z1 ?_|refine z2 ?_)|((with_reducible refine gF ?_);((refine z33 rfl ?_);intro K hK;(conv=>whnf)))|((intro _;skip)<;>(conv=>whnf))))
        refine st_auto (α := Nat) (fun i => i ≤ l.length ∧ ¬ w ∈ Po.valsL f (l.take i)) (fun i => [.keep, .keep, .keep, .keep, .keep, .keep, .set (.bool false), .set (.int .i64 i), .keep, .keep, .keep, .keep, .keep, .keep, .keep, .keep, .keep, .keep, .keep, .keep, .keep, .keep, .keep, .keep, .keep, .keep, .keep, .keep, .keep, .keep, .drop, .drop, .drop, .drop, .drop, .drop, .drop, .drop, .drop, .drop, .drop, .drop, .drop, .drop, .drop]) (fun _ => []) (fun i => l.length - i) 0 ⟨Nat.zero_le _, by simp [Po.valsL]⟩ ?_ (MemFits.eq rfl) ?_
        · repeat (first|exact FitsSl.nil|refine FitsSl.any ?_|refine FitsSl.cons (Fit1.int (by first | rfl | omega)) ?_|refine FitsSl.cons (Fit1.bool rfl) ?_|refine FitsSl.cons (Fit1.same (by intro h; cases h) (by with_reducible rfl)) ?_)
        (intro i ⟨hi, hno⟩; intro K hK; (conv=>whnf); refine hK _ _ ?_; clear hK K)
        by_cases hlt : i < l.length
        · have hx : l[i]? = some l[i] := List.getElem?_eq_getElem hlt
          obtain ⟨pA, pcap, A, cap, hA, c0, c1, c2, c3, c4, c5, c6, c7⟩ := hu.get hx
          have hAo := hA.l.ok
          have hAp := hA.p.ok
          have hmem := List.mem_of_getElem? hx
          have c := ih _ hmem _ _ hA
          have hnx := Po.valsL_take f hlt
          have hyes : w ∈ Po.vals f l[i] → w ∈ Po.valsL f l := fun hw => by
            have e := Po.valsL_append f (l.take (i + 1)) (l.drop (i + 1))
            rw [List.take_append_drop, hnx] at e
            rw [e]
            exact List.mem_append_left _ (List.mem_append_right _ hw)
          have hnext : ¬ w ∈ Po.vals f l[i] → ¬ w ∈ Po.valsL f (l.take (i + 1)) := fun h1 h2 => by
            rw [hnx] at h2
            rcases List.mem_append.1 h2 with h2 | h2
            · exact hno h2
            · exact h1 h2
          clear ih hnx ca
          generalize l[i] = y at *
          by_cases hw : w ∈ Po.vals f y
          · rw [decide_eq_true hw] at c
            have hy := hyes hw
            clear hyes hnext hw
            obtain ⟨yk, ⟨ypk, ypf, ypv, ypl⟩, yf, yv, yl⟩ := y
            simp only [Po.cs, Po.T.k, Po.T.p, Po.T.f, Po.T.v, Po.T.l, Pd.T.k, Pd.T.f, Pd.T.v, Pd.T.l] at c c0 c1 c2 c3 c4 c5 c6 c7 hAo hAp
            (repeat' (first|(with_reducible first|(refine hK _ _ ?_;clear hK K)|(refine hA ?_;clear hA hB A B)|(refine hK _ ?_;clear hK K))|((with_reducible refine gO ?_);(first|((with_reducible refine z25 ?_);intro K hK;(conv=>whnf))|(with_reducible refine z0 ?_)))|((first|((with_reducible refine gI ?_);(first|((with_reducible refine NIf.decY ?s ?_);case s=>omega)|((with_reducible refine NIf.yes ?s ?_);case s=>rfl)))|(with_reducible refine gN ?_;first|refine NN.cast ?_|refine NN.a5 ?_|refine NN.keep ?_)|((with_reducible refine gH ?_;refine NH.mk ?s ?_);case s=>(and_intros<;>first|with_reducible rfl|omega))|((with_reducible refine gC ?_;refine NCall.isF 52 ?_);refine NCall.subE [0] (c) rfl (by decide) rfl rfl ?_)|(with_reducible refine NLd.of (by with_reducible assumption) ?_))<;>(conv=>whnf))|((with_reducible refine gX ?_);(first|(with_reducible first|refine z3 ?_|refine z4 ?_|refine z5 ?_|refine z6 ?_|refine z8 ?_)|((with_reducible refine z29 ?_);intro A B hA hB;(conv=>whnf))))|(with_reducible first|refine z1 ?_|refine z2 ?_|refine z12 ?_|refine z13 ?_|refine z20 ?_)|((with_reducible refine gR ?_);((refine z31 rfl ?_);intro K hK;(conv=>whnf)))))
            all_goals exact ⟨by rw [decide_eq_true hy], MemFits.pre 1 rfl⟩
          · rw [decide_eq_false hw] at c
            have hy := hnext hw
            clear hyes hnext hw
            obtain ⟨yk, ⟨ypk, ypf, ypv, ypl⟩, yf, yv, yl⟩ := y
            simp only [Po.cs, Po.T.k, Po.T.p, Po.T.f, Po.T.v, Po.T.l, Pd.T.k, Pd.T.f, Pd.T.v, Pd.T.l] at c c0 c1 c2 c3 c4 c5 c6 c7 hAo hAp
            (repeat' (first|(with_reducible first|(refine hK _ _ ?_;clear hK K)|(refine hA ?_;clear hA hB A B)|(refine hB ?_;clear hA hB A B))|((with_reducible refine gO ?_);(first|((with_reducible refine z25 ?_);intro K hK;(conv=>whnf))|(with_reducible refine z0 ?_)))|((first|((with_reducible refine gV ?_);(((with_reducible refine NV.i64 ?s ?_);case s=>omega)))|((with_reducible refine gI ?_);(first|((with_reducible refine NIf.decY ?s ?_);case s=>omega)|((with_reducible refine NIf.no ?s ?_);case s=>rfl)))|(with_reducible refine gN ?_;first|refine NN.cast ?_|refine NN.a5 ?_|refine NN.keep ?_)|((with_reducible refine gH ?_;refine NH.mk ?s ?_);case s=>(and_intros<;>first|with_reducible rfl|omega))|((with_reducible refine gC ?_;refine NCall.isF 52 ?_);refine NCall.subE [0] (c) rfl (by decide) rfl rfl ?_)|(with_reducible refine NLd.of (by with_reducible assumption) ?_))<;>(conv=>whnf))|((with_reducible refine gX ?_);(first|(with_reducible first|refine z3 ?_|refine z4 ?_|refine z5 ?_|refine z6 ?_)|((with_reducible refine z29 ?_);intro A B hA hB;(conv=>whnf))))|(with_reducible first|refine z1 ?_|refine z2 ?_|refine z9 ?_)))
            refine st_round (i + 1) ⟨hlt, hy⟩ (by omega) ?_ (MemFits.eq rfl)
            repeat (first|exact FitsSl.nil|refine FitsSl.any ?_|refine FitsSl.cons (Fit1.int (by first | rfl | omega)) ?_|refine FitsSl.cons (Fit1.bool rfl) ?_|refine FitsSl.cons (Fit1.same (by intro h; cases h) (by with_reducible rfl)) ?_)
        · have hkl : i = l.length := by omega
          subst hkl
          rw [List.take_length] at hno
          clear ih
          (repeat' (first|(with_reducible first|(refine hK _ _ ?_;clear hK K)|(refine hB ?_;clear hA hB A B)|(refine hK _ ?_;clear hK K))|((with_reducible refine gO ?_);(first|((with_reducible refine z25 ?_);intro K hK;(conv=>whnf))|(with_reducible refine z0 ?_)))|((first|((with_reducible refine gI ?_);(((with_reducible refine NIf.decN ?s ?_);case s=>omega)))|(with_reducible refine gN ?_;refine NN.a5 ?_)|((with_reducible refine gH ?_;refine NH.mk ?s ?_);case s=>(and_intros<;>first|with_reducible rfl|omega)))<;>(conv=>whnf))|((with_reducible refine gX ?_);(first|(with_reducible first|refine z3 ?_|refine z4 ?_|refine z7 ?_|refine z8 ?_)|((with_reducible refine z29 ?_);intro A B hA hB;(conv=>whnf))))|(with_reducible first|refine z1 ?_|refine z2 ?_|refine z10 ?_|refine z11 ?_|refine z19 ?_)|((with_reducible refine gR ?_);((refine z31 rfl ?_);intro K hK;(conv=>whnf)))))
          all_goals exact ⟨by rw [decide_eq_false hno], MemFits.pre 1 rfl⟩
end Go.Proofs.YtngodakgbldlpaaGreatDoor
