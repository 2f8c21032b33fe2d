import Derived.Test.YtijkmhmgigaieaaTc9
import Derived.Test.YtijkmhmgigaieaaSxK
namespace Go.Proofs.Ytijkmhmgigaieaa
open Go.Sx Go.RowKit
set_option maxRecDepth 20000
set_option linter.unusedSimpArgs false
set_option linter.unusedVariables false
set_option maxHeartbeats 4000000
set_option linter.unusedVariables false
namespace Srt
theorem comp_len_iff {s : List Int} (hs : s.Pairwise (· ≤ ·)) : (comp s).length = s.length ↔ s.Nodup := by
  have e : (comp s).length = ((List.range s.length).filter (Go.Lib.keeps s.toArray)).length := by
    unfold comp Go.Lib.compact Go.Lib.compactUpTo
    rw [List.length_map]
  have hat : ∀ j (h : j < s.length), s.toArray[j]! = s[j] := fun j h => by simp [h]
  rw [e]
  have e2 : ((List.range s.length).filter (Go.Lib.keeps s.toArray)).length = s.length ↔ ∀ j, j < s.length → Go.Lib.keeps s.toArray j = true := by
    have h := List.length_filter_eq_length_iff (p := Go.Lib.keeps s.toArray) (l := List.range s.length)
    rw [List.length_range] at h
    rw [h]
    exact ⟨fun h j hj => h j (List.mem_range.2 hj), fun h j hj => h j (List.mem_range.1 hj)⟩
  rw [e2]
  rw [List.pairwise_iff_getElem] at hs
  constructor
  · intro h
    have hlt : ∀ j (h0 : 0 < j) (hj : j < s.length), s[j - 1] < s[j] := fun j h0 hj => by
      have h1 := h j hj
      have h2 := hs (j - 1) j (by omega) hj (by omega)
      simp only [Go.Lib.keeps, decide_eq_true_eq] at h1
      rw [hat j hj, hat (j - 1) (by omega)] at h1
      have h3 : s[j] ≠ s[j - 1] := h1.resolve_left (by omega)
      omega
    refine List.pairwise_iff_getElem.2 fun i j hi hj hij => ?_
    have h1 := hlt j (by omega) hj
    rcases Nat.lt_or_ge i (j - 1) with h2 | h2
    · have := hs i (j - 1) hi (by omega) h2
      omega
    · have e : i = j - 1 := by omega
      subst e
      omega
  · intro h j hj
    simp only [Go.Lib.keeps, decide_eq_true_eq]
    by_cases h0 : j = 0
    · exact .inl h0
    · right
      rw [hat j hj, hat (j - 1) (by omega)]
      exact (List.pairwise_iff_getElem.1 h (j - 1) j (by omega) hj (by omega)).symm
theorem sort_twice (l : List Int) : (comp (sort l)).length = l.length ↔ l.Nodup := by
  have hp : (sort l).Perm l := List.mergeSort_perm l _
  have hs : (sort l).Pairwise (· ≤ ·) := by
    have := List.pairwise_mergeSort (le := fun x y : Int => decide (x ≤ y)) (fun a b c h1 h2 => by simp at *; omega) (fun a b => by simp; omega) l
    exact this.imp fun h => by simpa using h
  rw [← sort_len l, comp_len_iff hs]
  exact hp.nodup_iff
theorem cut_to {v : Value} {t : TypeId} {n : Nat} {cs : List AV} {W : World} (h : (⟨addrOf v, cs, .row v t 1 n⟩ : Blk).holds W) (k : Nat) : cutTo v k = cutSl v 1 0 k := by
  rcases h.1.2 with ⟨rfl, rfl⟩ | ⟨g, cap, cur, rfl, _⟩
  · unfold cutTo cutSl slOf
    dsimp only
    congr 1 <;> simp
  · unfold cutTo cutSl slOf
    dsimp only
    congr 1
    split
    · rfl
    · simp [Addr.add]
end Srt
theorem collect41_c (F : Heap) (v : Value) (l : List Int) (hv : Tc.IRow F v l) (hn : l.length ≤ 1000) (cap : Addr) (hc : F.c cap v) :
    NCall Try.prog 50 [.fn 52 [] [.hp cap 0]] [hpB F] fun r m => ∃ (u : Value), r = .sl 1 u l.length ∧ m = [hpB F, ⟨addrOf u, Srt.av l, .row u 3 1 l.length⟩] := by
  have ca := NCall.fits (appendseq41_c F v l hv hn cap hc) (K' := fun r m => ∃ (u : Value), r = .sl 1 u l.length ∧ m = [hpB F, ⟨addrOf u, Srt.av l, .row u 3 1 l.length⟩]) fun r m ⟨u, h2, h3⟩ => ⟨.sl 1 u l.length, _, h2.symm, h3, u, rfl, rfl⟩
  refine ncall_of Try.func50 rfl (by decide) ?_
  (repeat' (first|(with_reducible first|(refine hK _ _ ?_;clear hK K)|(refine hK _ ?_;clear hK K))|((with_reducible refine z25 ?_);intro K hK;(conv=>whnf))|(with_reducible refine z0 ?_)|(((with_reducible refine NCall.isF 57 ?_);refine NCall.subw [0] _ _ (ca) rfl (by decide) rfl ?_;rintro _ _ ⟨u, rfl, rfl⟩;refine ⟨Nat.le_of_ble_eq_true rfl, _, rfl, ?_⟩)<;>(conv=>whnf))|(with_reducible first|refine z3 ?_|refine z4 ?_|refine z8 ?_|refine z1 ?_|refine z2 ?_)|((with_reducible refine gR ?_);(refine z31 rfl ?_;intro K hK;(conv=>whnf)))|((with_reducible refine gF ?_);(refine z33 rfl ?_;intro K hK;(conv=>whnf)))))
  all_goals exact ⟨u, rfl, rfl⟩
theorem sorted41_c (F : Heap) (v : Value) (l : List Int) (hv : Tc.IRow F v l) (hn : l.length ≤ 1000) (cap : Addr) (hc : F.c cap v) :
    NCall Try.prog 40 [.fn 52 [] [.hp cap 0]] [hpB F] fun r m => ∃ (u : Value), r = .sl 1 u l.length ∧ m = [hpB F, ⟨addrOf u, Srt.av (Srt.sort l), .row u 3 1 l.length⟩] := by
  have ca := collect41_c F v l hv hn cap hc
  refine ncall_of Try.func40 rfl (by decide) ?_
  (repeat' (first|(with_reducible first|(refine hK _ _ ?_;clear hK K)|(refine hK _ ?_;clear hK K))|((with_reducible refine z25 ?_);intro K hK;(conv=>whnf))|(with_reducible refine z0 ?_)|((first|((with_reducible refine NCall.isF 50 ?_);refine NCall.subw [0] _ _ (ca) rfl (by decide) rfl ?_;rintro _ _ ⟨u, rfl, rfl⟩;refine ⟨Nat.le_of_ble_eq_true rfl, _, rfl, ?_⟩)|((with_reducible refine NCall.isF 51 ?_);refine NCall.subE [1] (sort_c u 3 l (by omega)) rfl (by decide) rfl rfl ?_))<;>(conv=>whnf))|(with_reducible first|refine z3 ?_|refine z4 ?_|refine z8 ?_|refine z1 ?_|refine z2 ?_)|((with_reducible refine gR ?_);(refine z31 rfl ?_;intro K hK;(conv=>whnf)))|((with_reducible refine gF ?_);(refine z33 rfl ?_;intro K hK;(conv=>whnf)))))
  all_goals exact ⟨u, rfl, rfl⟩
theorem sorted41_k (F : Heap) (c : Nat) (t : TypeId) (v : Value) (l : List Int) (hv : Tc.IRow F v l) (hn : l.length ≤ 1000) :
    NCall Try.prog 40 [.fn 52 [] [.ptr 1 ⟨c, 0, none⟩ 0]] [hpB F, ⟨⟨c, 0, none⟩, [.hs v l.length], .var t⟩] fun r m => ∃ (G : Heap) (u : Value), F.le G ∧ r = .sl 2 u l.length ∧ m = [hpB G, hpB noHeap, ⟨addrOf u, Srt.av (Srt.sort l), .row u 3 1 l.length⟩] := by
  have hsl : slOf v = v := hv.ok.slOf
  have hc : (addF F ⟨c, 0, none⟩ (denL [AV.hs v l.length])).c ⟨c, 0, none⟩ v := .inr ⟨0, by simp [Addr.add], by simp [denL, AV.den, hsl]⟩
  have h := sorted41_c _ v l (Tc.irow_mono addF.old hv) hn ⟨c, 0, none⟩ hc
  have h := NCall.pre (args := [.fn 52 [] [.ptr 1 ⟨c, 0, none⟩ 0]]) (m := [hpB F, ⟨⟨c, 0, none⟩, [.hs v l.length], .var t⟩]) h rfl (MemFits.freezeVar (m := []))
  have hle : F.le (addF F ⟨c, 0, none⟩ (denL [AV.hs v l.length])) := addF.old
  generalize addF F ⟨c, 0, none⟩ (denL [AV.hs v l.length]) = G at *
  refine NCall.fits h fun r m ⟨u, h1, h2⟩ => ⟨.sl 2 u l.length, [hpB G, hpB noHeap, ⟨addrOf u, Srt.av (Srt.sort l), .row u 3 1 l.length⟩], ?_, ?_, G, u, hle, rfl, rfl⟩
  · rw [h1]; rfl
  · rw [h2]
    exact (MemFits.noHeap _).trans (MemFits.pick [1, 0, 2] (by decide) rfl)
theorem compact41_c (u : Value) (l : List Int) (hl : l.length ≤ 1000) :
    NCall Try.prog 42 [.sl 0 u l.length] [⟨addrOf u, Srt.av l, .row u 3 1 l.length⟩] fun r m => r = .view 0 u 1 0 (Srt.comp l).length ∧ m = [⟨addrOf u, Srt.av (Srt.comped l), .row u 3 1 l.length⟩] := by
  refine Go.Sx.NCall.know (compact_c u 3 l (by omega)) fun r m' ⟨h1, h2⟩ ⟨w, hw⟩ => ?_
  subst h2
  refine ⟨.view 0 u 1 0 (Srt.comp l).length, _, ?_, MemFits.eq rfl, rfl, rfl⟩
  rw [h1, AV.den, AV.den, Srt.cut_to (hw.holds _ (List.mem_singleton.2 rfl))]
theorem twice41_c (F : Heap) (c : Tc.C) (v : Value) (hv : Tc.IRow F v c.sws) (hl : c.sws.length ≤ 1000) : NCall Try.prog 27 [.agg (Tc.cs c v)] [hpB F] fun r m => r = .bool (Tc.twice c.sws) ∧ m = [hpB F] := by
  refine NCall.fits (K := fun r m => r = .bool (Tc.twice c.sws) ∧ MemFits m [hpB F]) ?_ fun r m' h => ⟨r, _, rfl, h.2, h.1, rfl⟩
  have hok := hv.ok
  have he : (!decide ((Srt.comp (Srt.sort c.sws)).length = c.sws.length)) = Tc.twice c.sws := by
    unfold Tc.twice
    rw [decide_eq_decide.2 (Srt.sort_twice c.sws)]
  have hsl := Srt.sort_len c.sws
  have hcl := Srt.comp_le (Srt.sort c.sws)
  have ck := fun b t => sorted41_k F b t v c.sws hv hl
  have cc := fun u => compact41_c u (Srt.sort c.sws) (by omega)
  rw [hsl] at cc hcl
  refine ncall_of Try.func27 rfl (by decide) ?_
  unfold Tc.cs
  (repeat' (first|(with_reducible first|(refine hK _ _ ?_;clear hK K)|(refine hK _ ?_;clear hK K))|((with_reducible refine z25 ?_);intro K hK;(conv=>whnf))|(with_reducible refine z0 ?_)|((first|(with_reducible refine NN.a5 ?_)|((with_reducible refine NH.mk ?s ?_);case s=>(and_intros<;>first|with_reducible rfl|((with_reducible refine gKept ?_);exact rfl)|omega|rfl))|((with_reducible refine NCall.isF 41 ?_);refine NCall.subw [0] _ _ (values_c F v c.sws.length hok) rfl (by decide) rfl ?_;rintro _ _ ⟨bv, rfl, rfl⟩;refine ⟨Nat.le_of_ble_eq_true rfl, .fn 52 [] [.ptr 2 ⟨bv, 0, none⟩ 0], rfl, ?_⟩)|((with_reducible refine NCall.isF 40 ?_);refine NCall.subw [0, 2] _ _ (ck _ _) rfl (by decide) rfl ?_;rintro _ _ ⟨G, u, hle, rfl, rfl⟩;refine ⟨Nat.le_of_ble_eq_true rfl, .sl 3 u c.sws.length, rfl, ?_⟩)|((with_reducible refine NCall.isF 42 ?_);refine NCall.subw [3] _ _ (cc _) rfl (by decide) rfl ?_;rintro _ _ ⟨rfl, rfl⟩;refine ⟨Nat.le_of_ble_eq_true rfl, .view 3 u 1 0 _, rfl, ?_⟩))<;>(conv=>whnf))|(with_reducible refine st_ordSout ?_)|((with_reducible refine gNOK ?_);(first|(refine st_ordK1 rfl (by kernel_rfl) rfl ?_;intro K hK;(conv=>whnf))|refine st_ordK0 rfl (by kernel_rfl) ?_|refine st_ordKA rfl rfl (by kernel_rfl) (by intro h; cases h) ?_))|((with_reducible refine gNEK ?_);(first|(refine st_eachK ?_ ?_;(intro K hK;(conv=>whnf)))|exact st_eachK0))|((with_reducible refine gX ?_);(first|refine st_orderS [3] rfl rfl (by kernel_rfl) _ rfl ?_|(with_reducible first|refine z3 ?_|refine z4 ?_|refine z8 ?_)))|(with_reducible first|refine z1 ?_|refine z2 ?_)|((with_reducible refine gR ?_);(refine z31 rfl ?_;intro K hK;(conv=>whnf)))|((with_reducible refine gF ?_);(refine z33 rfl ?_;intro K hK;(conv=>whnf)))|((intro _;skip)<;>(conv=>whnf))))
  all_goals exact ⟨by rw [← he, decide_eq_decide.2 (show ((((Srt.comp (Srt.sort c.sws)).length - 0 : Nat) : Int) = (c.sws.length : Int)) ↔ (Srt.comp (Srt.sort c.sws)).length = c.sws.length from by omega)], (MemFits.pre 1 rfl).trans (MemFits.less hle [])⟩
end Go.Proofs.Ytijkmhmgigaieaa
