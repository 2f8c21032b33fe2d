/-
  How many cells a policy has; may it be laid into a network? By the document; Conditions: their text. Plain.
-/
import Derived.Test.YtpkjnmddembkjaaGreatDoorJ18
import Derived.Test.YtpkjnmddembkjaaGreatDoorJ22
import Derived.Test.YtpkjnmddembkjaaGreatDoorJ23
import Derived.Test.YtpkjnmddembkjaaGreatDoorJ24
import Derived.Test.YtpkjnmddembkjaaGreatDoorJ1
import Derived.Lib.Join
import Derived.Lib.ItoaLen
namespace Go.Proofs.YtpkjnmddembkjaaGreatDoor
open Go.Sx
set_option maxRecDepth 20000
set_option linter.unusedSimpArgs false
set_option linter.unusedVariables false
set_option maxHeartbeats 4000000
set_option linter.unusedVariables false
namespace Po
theorem top_4 : Pd.top 4 = 7 := by unfold Pd.top; decide
theorem top_5 : Pd.top 5 = 7 := by unfold Pd.top; decide
def bad (t : Tp.T) (x : T) (i : Nat) : Bool := (decide ((i : Int) ∈ vals 4 x) && !Tp.named t i) || (decide ((i : Int) ∈ vals 5 x) && decide ((i : Int) ≥ t.n))
theorem bad_all {t : Tp.T} {x : T} (h : fits x = true) : ((∀ i : Nat, i < 8 → bad t x i = false) ↔ (values 4 x).any (fun p => !Tp.named t p) = false ∧ (values 5 x).any (fun s => decide (s ≥ t.n)) = false) := by
  have h4 := vals_top 4 x h
  have h5 := vals_top 5 x h
  rw [top_4] at h4
  rw [top_5] at h5
  simp only [List.any_eq_false, values_mem]
  constructor
  · intro hb
    refine ⟨fun v hv => ?_, fun v hv => ?_⟩
    · have hr := h4 v hv
      have hk := hb v.toNat (by omega)
      unfold bad at hk
      rw [Int.toNat_of_nonneg hr.1, decide_eq_true hv] at hk
      simp only [Bool.or_eq_false_iff, Bool.true_and] at hk
      rw [hk.1]; decide
    · have hr := h5 v hv
      have hk := hb v.toNat (by omega)
      unfold bad at hk
      rw [Int.toNat_of_nonneg hr.1, decide_eq_true hv] at hk
      simp only [Bool.or_eq_false_iff, Bool.true_and] at hk
      rw [hk.2]; decide
  · rintro ⟨ha, hb⟩ i hi
    unfold bad
    rw [Bool.or_eq_false_iff]
    constructor
    · by_cases hm : (i : Int) ∈ vals 4 x
      · have := ha _ hm
        rw [decide_eq_true hm]
        simpa using this
      · rw [decide_eq_false hm]; rfl
    · by_cases hm : (i : Int) ∈ vals 5 x
      · have := hb _ hm
        rw [decide_eq_true hm]
        simpa using this
      · rw [decide_eq_false hm]; rfl
end Po
theorem many30_c (F : Heap) (x : Po.T) (pu u : Value) (f : Int) (hf : -9223372036854775808 ≤ f ∧ f ≤ 9223372036854775807) (hs : Po.tot x ≤ 4611686018427387904) (hx : Po.At F x pu u) :
    NCall Tryz.prog 48 [.agg (Po.cs x pu u), .int .i64 f] [hpB F] fun r m => r = .int .i64 (Po.asked f x ((Pd.top f).toNat + 1)).length ∧ m = [hpB F] := by
  refine NCall.fits (K := fun r m => r = .int .i64 (Po.asked f x ((Pd.top f).toNat + 1)).length ∧ MemFits m [hpB F]) ?_ fun r m' h => ⟨r, _, rfl, h.2, h.1, rfl⟩
  have hok := hx.l.ok
  have hpok := hx.p.ok
  have ctop := reftop26_c f
  have ht0 := Pd.top_nonneg f
  have ht1 : Pd.top f ≤ 255 := by unfold Pd.top; split <;> first | omega | (split <;> first | omega | (split <;> omega))
  have ca : ∀ i : Nat, NCall Tryz.prog 40 [.agg (Po.cs x pu u), .int .i64 f, .int .i64 i] [hpB F] fun r m => r = .bool (decide ((i : Int) ∈ Po.vals f x)) ∧ m = [hpB F] := fun i => has27_c F f i hf _ x pu u (Nat.le_refl _) hs hx
  have hnx := Po.asked_next f x
  have hln := Po.asked_len f x
  have h0 : Po.asked f x 0 = [] := rfl
  generalize Pd.top f = T at *
  generalize hE : Po.vals f x = E at *
  generalize hW : Po.asked f x = W at *
  clear hs hx hE hW
  obtain ⟨k, ⟨pk, pf, pv, pl⟩, f0, v0, l⟩ := x
  simp only [Po.cs, Po.T.k, Po.T.p, Po.T.f, Po.T.v, Po.T.l, Pd.T.k, Pd.T.f, Pd.T.v, Pd.T.l] at *
  refine ncall_of Tryz.func48 rfl (by decide) ?_
  (repeat' (first|(with_reducible first|(refine hK _ _ ?_;clear hK K)|(refine hK _ ?_;clear hK K))|((with_reducible refine gO ?_);(first|((with_reducible refine z25 ?_);intro K hK;(conv=>whnf))|(with_reducible refine z0 ?_)))|((with_reducible refine gX ?_);((with_reducible first|refine z3 ?_|refine z4 ?_|refine z5 ?_)))|(with_reducible first|refine z1 ?_|refine z2 ?_)|((with_reducible refine gF ?_);((refine z33 rfl ?_);intro K hK;(conv=>whnf)))|((intro _;skip)<;>(conv=>whnf))))
  refine st_auto (α := Nat) (fun i => i ≤ T.toNat + 1) (fun i => [.keep, .keep, .keep, .keep, .keep, .set (.int .i64 (W i).length), .set (.int .i64 i), .drop, .drop, .drop, .drop, .drop, .drop, .drop, .drop, .drop, .drop, .drop, .drop, .keep]) (fun _ => []) (fun i => T.toNat + 1 - i) 0 (Nat.zero_le _) ?_ (MemFits.eq rfl) ?_
  · rw [h0]
    repeat (first | exact FitsSl.nil | refine FitsSl.any ?_ | refine FitsSl.cons (Fit1.int (by first | rfl | omega)) ?_ | refine FitsSl.cons (Fit1.bool rfl) ?_ | refine FitsSl.cons (Fit1.str rfl) ?_ | refine FitsSl.cons (Fit1.same (by intro h; cases h) (by with_reducible rfl)) ?_ | refine FitsSl.cons Fit1.nil_sl ?_ | refine FitsSl.cons (Fit1.hs rfl) ?_ | refine FitsSl.cons (Fit1.hp rfl rfl) ?_ | refine FitsSl.cons (Fit1.sl rfl) ?_ | refine FitsSl.cons (Fit1.ptr rfl rfl) ?_ | refine FitsSl.cons Fit1.raw ?_)
  (intro i hi; intro K hK; (conv=>whnf); refine hK _ _ ?_; clear hK K)
  have hl := hln i
  by_cases hlt : (i : Int) ≤ T
  · have c := ca i
    have hn := hnx i
    by_cases hE : (i : Int) ∈ E
    · rw [decide_eq_true hE] at c
      rw [if_pos hE] at hn
      have hlen : (W (i + 1)).length = (W i).length + 1 := by rw [hn, List.length_append]; rfl
      clear ca hnx hln
      (repeat' (first|(with_reducible first|(refine hK _ _ ?_;clear hK K)|(refine hA ?_;clear hA hB A B))|((with_reducible refine gO ?_);(first|((with_reducible refine z25 ?_);intro K hK;(conv=>whnf))|(with_reducible refine z0 ?_)))|((first|((with_reducible refine gV ?_);(((with_reducible refine NV.i64 ?s ?_);case s=>omega)))|((with_reducible refine gI ?_);(first|((with_reducible refine NIf.decY ?s ?_);case s=>assumption)|((with_reducible refine NIf.yes ?s ?_);case s=>rfl)))|((with_reducible refine gH ?_);((with_reducible refine NH.mk ?s ?_);case s=>(and_intros<;>with_reducible rfl)))|((with_reducible refine gC ?_);(first|((with_reducible refine NCall.isF 81 ?_);refine NCall.pureE (ctop) ?_)|((with_reducible refine NCall.isF 40 ?_);refine NCall.subE [0] (c) rfl (by decide) rfl rfl ?_))))<;>(conv=>whnf))|((with_reducible refine gX ?_);(first|(with_reducible first|refine z3 ?_|refine z4 ?_|refine z5 ?_|refine z6 ?_)|((with_reducible refine z29 ?_);intro A B hA hB;(conv=>whnf))))|(with_reducible first|refine z1 ?_|refine z2 ?_|refine z9 ?_)))
      all_goals first | (exfalso; omega) | skip
      all_goals
        refine st_round (i + 1) (by show i + 1 ≤ T.toNat + 1; omega) (by show T.toNat + 1 - (i + 1) < T.toNat + 1 - i; omega) ?_ (MemFits.pre 2 rfl)
        rw [hlen]
        repeat (first | exact FitsSl.nil | refine FitsSl.any ?_ | refine FitsSl.cons (Fit1.int (by first | rfl | omega)) ?_ | refine FitsSl.cons (Fit1.bool rfl) ?_ | refine FitsSl.cons (Fit1.str rfl) ?_ | refine FitsSl.cons (Fit1.same (by intro h; cases h) (by with_reducible rfl)) ?_ | refine FitsSl.cons Fit1.nil_sl ?_ | refine FitsSl.cons (Fit1.hs rfl) ?_ | refine FitsSl.cons (Fit1.hp rfl rfl) ?_ | refine FitsSl.cons (Fit1.sl rfl) ?_ | refine FitsSl.cons (Fit1.ptr rfl rfl) ?_ | refine FitsSl.cons Fit1.raw ?_)
    · rw [decide_eq_false hE] at c
      rw [if_neg hE, List.append_nil] at hn
      rw [← hn]
      clear ca hnx hln
      (repeat' (first|(with_reducible first|(refine hK _ _ ?_;clear hK K)|(refine hA ?_;clear hA hB A B)|(refine hB ?_;clear hA hB A B))|((with_reducible refine gO ?_);(first|((with_reducible refine z25 ?_);intro K hK;(conv=>whnf))|(with_reducible refine z0 ?_)))|((first|((with_reducible refine gV ?_);(((with_reducible refine NV.i64 ?s ?_);case s=>omega)))|((with_reducible refine gI ?_);(first|((with_reducible refine NIf.decY ?s ?_);case s=>assumption)|((with_reducible refine NIf.no ?s ?_);case s=>rfl)))|((with_reducible refine gH ?_);((with_reducible refine NH.mk ?s ?_);case s=>(and_intros<;>with_reducible rfl)))|((with_reducible refine gC ?_);(first|((with_reducible refine NCall.isF 81 ?_);refine NCall.pureE (ctop) ?_)|((with_reducible refine NCall.isF 40 ?_);refine NCall.subE [0] (c) rfl (by decide) rfl rfl ?_))))<;>(conv=>whnf))|((with_reducible refine gX ?_);(first|(with_reducible first|refine z3 ?_|refine z4 ?_|refine z5 ?_|refine z6 ?_)|((with_reducible refine z29 ?_);intro A B hA hB;(conv=>whnf))))|(with_reducible first|refine z1 ?_|refine z2 ?_|refine z9 ?_)))
      all_goals first | (exfalso; omega) | skip
      all_goals
        refine st_round (i + 1) (by show i + 1 ≤ T.toNat + 1; omega) (by show T.toNat + 1 - (i + 1) < T.toNat + 1 - i; omega) ?_ (MemFits.pre 2 rfl)
        repeat (first | exact FitsSl.nil | refine FitsSl.any ?_ | refine FitsSl.cons (Fit1.int (by first | rfl | omega)) ?_ | refine FitsSl.cons (Fit1.bool rfl) ?_ | refine FitsSl.cons (Fit1.str rfl) ?_ | refine FitsSl.cons (Fit1.same (by intro h; cases h) (by with_reducible rfl)) ?_ | refine FitsSl.cons Fit1.nil_sl ?_ | refine FitsSl.cons (Fit1.hs rfl) ?_ | refine FitsSl.cons (Fit1.hp rfl rfl) ?_ | refine FitsSl.cons (Fit1.sl rfl) ?_ | refine FitsSl.cons (Fit1.ptr rfl rfl) ?_ | refine FitsSl.cons Fit1.raw ?_)
  · have hE : i = T.toNat + 1 := by omega
    subst hE
    clear ca hnx
    (repeat' (first|(with_reducible first|(refine hK _ _ ?_;clear hK K)|(refine hB ?_;clear hA hB A B)|(refine hK _ ?_;clear hK K))|((with_reducible refine gO ?_);(first|((with_reducible refine z25 ?_);intro K hK;(conv=>whnf))|(with_reducible refine z0 ?_)))|((first|((with_reducible refine gI ?_);(((with_reducible refine NIf.decN ?s ?_);case s=>assumption)))|((with_reducible refine gC ?_);((with_reducible refine NCall.isF 81 ?_);refine NCall.pureE (ctop) ?_)))<;>(conv=>whnf))|((with_reducible refine gX ?_);(first|(with_reducible first|refine z3 ?_|refine z4 ?_|refine z7 ?_|refine z8 ?_)|((with_reducible refine z29 ?_);intro A B hA hB;(conv=>whnf))))|(with_reducible first|refine z1 ?_|refine z2 ?_|refine z10 ?_|refine z11 ?_|refine z19 ?_)|((with_reducible refine gR ?_);((refine z31 rfl ?_);intro K hK;(conv=>whnf)))))
    all_goals first | (exfalso; omega) | skip
    all_goals exact ⟨rfl, MemFits.pre 1 rfl⟩
theorem refcells30_c (F : Heap) (x : Po.T) (pu u : Value) (hs : Po.tot x ≤ 2932031007402) (hf : Po.fits x = true) (hx : Po.At F x pu u) : NCall Tryz.prog 15 [.agg (Po.cs x pu u)] [hpB F] fun r m => r = .int .i64 (Po.cells x : Nat) ∧ m = [hpB F] := by
  refine NCall.fits (K := fun r m => r = .int .i64 (Po.cells x : Nat) ∧ MemFits m [hpB F]) ?_ fun r m' h => ⟨r, _, rfl, h.2, h.1, rfl⟩
  have hok := hx.l.ok
  have hpok := hx.p.ok
  have cv : ∀ i : Nat, i < 5 → NCall Tryz.prog 48 [.agg (Po.cs x pu u), .int .i64 i] [hpB F] fun r m => r = .int .i64 (Po.values i x).length ∧ m = [hpB F] := fun i hi => by
    have c := many30_c F x pu u i (by omega) (by omega) hx
    rw [Po.asked_values i x hf] at c
    exact c
  have hcl := Po.cellsN_le x
  have hlv : ∀ f, (Po.values f x).length ≤ 2932031007402 := fun f => Nat.le_trans (Po.values_len f x) hs
  unfold Po.cells
  have hnx : ∀ i, Po.cellsN x (i + 1) = min (Po.cellsN x i * ((Po.values i x).length + 1)) 100000 := fun i => by rw [Po.cellsN]
  have hbig : ∀ i, Po.cellsN x i * ((Po.values i x).length + 1) ≤ 293203100740300000 := fun i => by
    have h1 := hcl i
    have h2 := hlv i
    calc _ ≤ 100000 * (2932031007402 + 1) := Nat.mul_le_mul h1 (by omega)
      _ ≤ _ := by decide
  have h0 : Po.cellsN x 0 = 1 := rfl
  clear hx hs hf
  generalize hC : Po.cellsN x = C at *
  generalize hL : (fun f : Int => (Po.values f x).length) = L at *
  have hL' : ∀ f : Int, (Po.values f x).length = L f := fun f => by rw [← hL]
  simp only [hL'] at cv hnx hbig hlv
  clear hL hL' hC
  obtain ⟨k, ⟨pk, pf, pv, pl⟩, f0, v0, l⟩ := x
  simp only [Po.cs, Po.T.k, Po.T.p, Po.T.f, Po.T.v, Po.T.l, Pd.T.k, Pd.T.f, Pd.T.v, Pd.T.l] at *
  refine ncall_of Tryz.func15 rfl (by decide) ?_
  (repeat' (first|(with_reducible first|(refine hK _ _ ?_;clear hK K)|(refine hK _ ?_;clear hK K))|((with_reducible refine gO ?_);(first|((with_reducible refine z25 ?_);intro K hK;(conv=>whnf))|(with_reducible refine z0 ?_)))|((with_reducible refine gX ?_);((with_reducible first|refine z3 ?_|refine z4 ?_|refine z5 ?_)))|(with_reducible first|refine z1 ?_|refine z2 ?_)|((with_reducible refine gF ?_);((refine z33 rfl ?_);intro K hK;(conv=>whnf)))|((intro _;skip)<;>(conv=>whnf))))
  refine st_auto (α := Nat) (fun i => i ≤ 5) (fun i => [.keep, .keep, .keep, .set (.int .i64 (C i : Nat)), .set (.int .i64 i), .drop, .drop, .drop, .drop, .drop, .drop, .drop, .drop, .drop, .drop, .drop, .drop, .keep]) (fun _ => []) (fun i => 5 - i) 0 (by decide) ?_ (MemFits.eq rfl) ?_
  · repeat (first | exact FitsSl.nil | refine FitsSl.any ?_ | refine FitsSl.cons (Fit1.int (by  simp [h0])) ?_ | refine FitsSl.cons (Fit1.int (by first | rfl | omega)) ?_ | refine FitsSl.cons (Fit1.bool rfl) ?_ | refine FitsSl.cons (Fit1.str rfl) ?_ | refine FitsSl.cons (Fit1.same (by intro h; cases h) (by with_reducible rfl)) ?_ | refine FitsSl.cons Fit1.nil_sl ?_ | refine FitsSl.cons (Fit1.hs rfl) ?_ | refine FitsSl.cons (Fit1.hp rfl rfl) ?_ | refine FitsSl.cons (Fit1.sl rfl) ?_ | refine FitsSl.cons (Fit1.ptr rfl rfl) ?_ | refine FitsSl.cons Fit1.raw ?_)
  (intro i hi; intro K hK; (conv=>whnf); refine hK _ _ ?_; clear hK K)
  by_cases hlt : i < 5
  · have c := cv i hlt
    have hn := hnx i
    have hb := hbig i
    have hl := hlv i
    have hc := hcl i
    clear cv hnx hbig hlv hcl
    generalize L i = n at *
    generalize C i = c0 at *
    have hprod : ((c0 : Int) * ((n : Int) + 1)) = ((c0 * (n + 1) : Nat) : Int) := by push_cast; rfl
    (repeat' (first|(with_reducible first|(refine hK _ _ ?_;clear hK K)|(refine hA ?_;clear hA hB A B)|(refine hB ?_;clear hA hB A B))|((with_reducible refine gO ?_);(first|((with_reducible refine z25 ?_);intro K hK;(conv=>whnf))|(with_reducible refine z0 ?_)))|((first|((with_reducible refine gV ?_);(((with_reducible refine NV.i64 ?s ?_);case s=>omega)))|((with_reducible refine gI ?_);(first|((with_reducible refine NIf.decY ?s ?_);case s=>omega)|(with_reducible refine NIf.dec (fun _=>?_) (fun _=>?_))))|((with_reducible refine gH ?_);((with_reducible refine NH.mk ?s ?_);case s=>(and_intros<;>with_reducible rfl)))|((with_reducible refine gC ?_);((with_reducible refine NCall.isF 48 ?_);refine NCall.subE [0] (c) rfl (by decide) rfl rfl ?_)))<;>(conv=>whnf))|((with_reducible refine gX ?_);(first|(with_reducible first|refine z3 ?_|refine z4 ?_|refine z5 ?_|refine z6 ?_)|((with_reducible refine z29 ?_);intro A B hA hB;(conv=>whnf))))|(with_reducible first|refine z1 ?_|refine z2 ?_|refine z9 ?_)))
    all_goals
      refine st_round (i + 1) hlt (by omega) ?_ (MemFits.pre 2 rfl)
      repeat (first | exact FitsSl.nil | refine FitsSl.any ?_ | refine FitsSl.cons (Fit1.int (by  (simp only [hn]; omega))) ?_ | refine FitsSl.cons (Fit1.int (by first | rfl | omega)) ?_ | refine FitsSl.cons (Fit1.bool rfl) ?_ | refine FitsSl.cons (Fit1.str rfl) ?_ | refine FitsSl.cons (Fit1.same (by intro h; cases h) (by with_reducible rfl)) ?_ | refine FitsSl.cons Fit1.nil_sl ?_ | refine FitsSl.cons (Fit1.hs rfl) ?_ | refine FitsSl.cons (Fit1.hp rfl rfl) ?_ | refine FitsSl.cons (Fit1.sl rfl) ?_ | refine FitsSl.cons (Fit1.ptr rfl rfl) ?_ | refine FitsSl.cons Fit1.raw ?_)
  · obtain rfl : i = 5 := by omega
    (repeat' (first|(with_reducible first|(refine hK _ _ ?_;clear hK K)|(refine hB ?_;clear hA hB A B)|(refine hK _ ?_;clear hK K))|((with_reducible refine gO ?_);(first|((with_reducible refine z25 ?_);intro K hK;(conv=>whnf))|(with_reducible refine z0 ?_)))|((((with_reducible refine gI ?_);(((with_reducible refine NIf.decN ?s ?_);case s=>omega))))<;>(conv=>whnf))|((with_reducible refine gX ?_);(first|(with_reducible first|refine z3 ?_|refine z4 ?_|refine z7 ?_|refine z8 ?_)|((with_reducible refine z29 ?_);intro A B hA hB;(conv=>whnf))))|(with_reducible first|refine z1 ?_|refine z2 ?_|refine z10 ?_|refine z11 ?_|refine z19 ?_)|((with_reducible refine gR ?_);((refine z31 rfl ?_);intro K hK;(conv=>whnf)))))
    all_goals exact ⟨rfl, MemFits.pre 1 rfl⟩
theorem refcheck30_c (F : Heap) (t : Tp.T) (lv hv : Value) (x : Po.T) (pu u : Value) (ht : Tp.At F t lv hv) (hl : t.ls.length ≤ 1000) (hh : t.hs.length ≤ 1000) (hs : Po.tot x ≤ 2932031007402) (hx : Po.At F x pu u) :
    NCall Tryz.prog 10 [.agg (Tp.cs t lv hv), .agg (Po.cs x pu u)] [hpB F] fun r m => r = .int .i64 (Po.check (Tp.right t) t x) ∧ m = [hpB F] := by
  refine NCall.fits (K := fun r m => r = .int .i64 (Po.check (Tp.right t) t x) ∧ MemFits m [hpB F]) ?_ fun r m' h => ⟨r, _, rfl, h.2, h.1, rfl⟩
  have hlo := ht.l.ok
  have hho := ht.h.ok
  have hok := hx.l.ok
  have hpok := hx.p.ok
  have cr := reftopo17_c F t lv hv ht hl hh
  have crt := refright27_c F x pu u (by omega) hx
  have c4 := fun i : Nat => has27_c F 4 i (by omega) _ x pu u (Nat.le_refl _) (by omega) hx
  have c5 := fun i : Nat => has27_c F 5 i (by omega) _ x pu u (Nat.le_refl _) (by omega) hx
  have cn := fun i : Nat => refnamed30_c F t lv hv i ht hl hh
  have hcc : Po.right x = true → NCall Tryz.prog 15 [.agg (Po.cs x pu u)] [hpB F] fun r m => r = .int .i64 (Po.cells x : Nat) ∧ m = [hpB F] := fun h => refcells30_c F x pu u hs (Po.right_fits' h) hx
  have hbad := fun h : Po.right x = true => Po.bad_all (t := t) (Po.right_fits' h)
  have hb : ∀ i : Nat, Po.bad t x i = ((decide ((i : Int) ∈ Po.vals 4 x) && !Tp.named t i) || (decide ((i : Int) ∈ Po.vals 5 x) && decide ((i : Int) ≥ t.n))) := fun i => rfl
  unfold Po.check
  generalize Tp.right t = bt at *
  generalize Po.right x = br at *
  generalize Po.cells x = nc at *
  generalize ((Po.values 4 x).any fun p => !Tp.named t p) = b4 at *
  generalize ((Po.values 5 x).any fun s => decide (s ≥ t.n)) = b5 at *
  generalize Po.vals 4 x = V4 at *
  generalize Po.vals 5 x = V5 at *
  generalize Po.bad t x = bd at *
  generalize Tp.named t = nm at *
  clear hx ht hs
  obtain ⟨k, ⟨pk, pf, pv, pl⟩, f0, v0, l⟩ := x
  obtain ⟨tn, ls, hs'⟩ := t
  simp only [Tp.cs, Po.cs, Po.T.k, Po.T.p, Po.T.f, Po.T.v, Po.T.l, Pd.T.k, Pd.T.f, Pd.T.v, Pd.T.l] at *
  refine ncall_of Tryz.func10 rfl (by decide) ?_
  cases bt
  · (repeat' (first|(with_reducible first|(refine hK _ _ ?_;clear hK K)|(refine hA ?_;clear hA hB A B)|(refine hK _ ?_;clear hK K))|((with_reducible refine gO ?_);(first|((with_reducible refine z25 ?_);intro K hK;(conv=>whnf))|(with_reducible refine z0 ?_)))|((first|((with_reducible refine gI ?_);(first|with_reducible refine NIf.not_ ?_|((with_reducible refine NIf.no ?s ?_);case s=>rfl)))|((with_reducible refine gH ?_);((with_reducible refine NH.mk ?s ?_);case s=>(and_intros<;>with_reducible rfl)))|((with_reducible refine gC ?_);((with_reducible refine NCall.isF 39 ?_);refine NCall.subE [0] (cr) rfl (by decide) rfl rfl ?_)))<;>(conv=>whnf))|((with_reducible refine gX ?_);(first|(with_reducible first|refine z3 ?_|refine z4 ?_|refine z8 ?_)|((with_reducible refine z29 ?_);intro A B hA hB;(conv=>whnf))))|(with_reducible first|refine z1 ?_|refine z2 ?_|refine z12 ?_)|((with_reducible refine gR ?_);((refine z31 rfl ?_);intro K hK;(conv=>whnf)))|((with_reducible refine gF ?_);((refine z33 rfl ?_);intro K hK;(conv=>whnf)))|((intro _;skip)<;>(conv=>whnf))))
    all_goals exact ⟨rfl, MemFits.pre 1 rfl⟩
  cases br
  · (repeat' (first|(with_reducible first|(refine hK _ _ ?_;clear hK K)|(refine hA ?_;clear hA hB A B)|(refine hB ?_;clear hA hB A B)|(refine hK _ ?_;clear hK K))|((with_reducible refine gO ?_);(first|((with_reducible refine z25 ?_);intro K hK;(conv=>whnf))|(with_reducible refine z0 ?_)))|((first|((with_reducible refine gI ?_);(first|with_reducible refine NIf.not_ ?_|((with_reducible refine NIf.yes ?s ?_);case s=>rfl)|((with_reducible refine NIf.no ?s ?_);case s=>rfl)))|((with_reducible refine gH ?_);((with_reducible refine NH.mk ?s ?_);case s=>(and_intros<;>with_reducible rfl)))|((with_reducible refine gC ?_);(first|((with_reducible refine NCall.isF 39 ?_);refine NCall.subE [0] (cr) rfl (by decide) rfl rfl ?_)|((with_reducible refine NCall.isF 13 ?_);refine NCall.subE [0] (crt) rfl (by decide) rfl rfl ?_))))<;>(conv=>whnf))|((with_reducible refine gX ?_);(first|(with_reducible first|refine z3 ?_|refine z4 ?_|refine z6 ?_|refine z8 ?_)|((with_reducible refine z29 ?_);intro A B hA hB;(conv=>whnf))))|(with_reducible first|refine z1 ?_|refine z2 ?_|refine z12 ?_)|((with_reducible refine gR ?_);((refine z31 rfl ?_);intro K hK;(conv=>whnf)))|((with_reducible refine gF ?_);((refine z33 rfl ?_);intro K hK;(conv=>whnf)))|((intro _;skip)<;>(conv=>whnf))))
    all_goals exact ⟨rfl, MemFits.pre 1 rfl⟩
  have hcc := hcc rfl
  have hbad := hbad rfl
  (repeat' (first|(with_reducible first|(refine hK _ _ ?_;clear hK K)|(refine hB ?_;clear hA hB A B)|(refine hK _ ?_;clear hK K))|((with_reducible refine gO ?_);(first|((with_reducible refine z25 ?_);intro K hK;(conv=>whnf))|(with_reducible refine z0 ?_)))|((first|((with_reducible refine gI ?_);(first|with_reducible refine NIf.not_ ?_|((with_reducible refine NIf.yes ?s ?_);case s=>rfl)))|((with_reducible refine gH ?_);((with_reducible refine NH.mk ?s ?_);case s=>(and_intros<;>with_reducible rfl)))|((with_reducible refine gC ?_);(first|((with_reducible refine NCall.isF 39 ?_);refine NCall.subE [0] (cr) rfl (by decide) rfl rfl ?_)|((with_reducible refine NCall.isF 13 ?_);refine NCall.subE [0] (crt) rfl (by decide) rfl rfl ?_))))<;>(conv=>whnf))|((with_reducible refine gX ?_);(first|(with_reducible first|refine z3 ?_|refine z4 ?_|refine z5 ?_|refine z6 ?_)|((with_reducible refine z29 ?_);intro A B hA hB;(conv=>whnf))))|(with_reducible first|refine z1 ?_|refine z2 ?_)|((with_reducible refine gF ?_);((refine z33 rfl ?_);intro K hK;(conv=>whnf)))|((intro _;skip)<;>(conv=>whnf))))
  refine st_auto (α := Nat) (fun i => i ≤ 8 ∧ ∀ j : Nat, j < i → bd j = false) (fun i => [.keep, .keep, .keep, .keep, .set (.int .i64 0), .set (.int .i64 i), .keep, .keep, .keep, .keep, .keep, .keep, .drop, .drop, .drop, .drop, .drop, .drop, .drop, .drop, .drop, .drop, .drop, .drop, .drop, .drop, .drop, .drop, .drop, .drop, .drop, .drop, .drop, .drop, .drop, .drop, .keep, .keep, .keep]) (fun _ => []) (fun i => 8 - i) 0 ⟨by decide, fun j h => absurd h (by omega)⟩ ?_ (MemFits.eq rfl) ?_
  · repeat (first | exact FitsSl.nil | refine FitsSl.any ?_ | refine FitsSl.cons (Fit1.int (by first | rfl | omega)) ?_ | refine FitsSl.cons (Fit1.bool rfl) ?_ | refine FitsSl.cons (Fit1.str rfl) ?_ | refine FitsSl.cons (Fit1.same (by intro h; cases h) (by with_reducible rfl)) ?_ | refine FitsSl.cons Fit1.nil_sl ?_ | refine FitsSl.cons (Fit1.hs rfl) ?_ | refine FitsSl.cons (Fit1.hp rfl rfl) ?_ | refine FitsSl.cons (Fit1.sl rfl) ?_ | refine FitsSl.cons (Fit1.ptr rfl rfl) ?_ | refine FitsSl.cons Fit1.raw ?_)
  (intro i ⟨hi, hno⟩; intro K hK; (conv=>whnf); refine hK _ _ ?_; clear hK K)
  by_cases hlt : i < 8
  · have d4 := c4 i
    have d5 := c5 i
    have dn := cn i
    have e := hb i
    have hfin : bd i = true → (if b4 = true then (13 : Int) else if b5 = true then 13 else if nc > 4096 then 6 else 0) = 13 := fun h => by
      by_cases k4 : b4 = true
      · rw [if_pos k4]
      · by_cases k5 : b5 = true
        · rw [if_neg k4, if_pos k5]
        · have := hbad.2 ⟨by simpa using k4, by simpa using k5⟩ i hlt
          rw [h] at this; cases this
    have hnext : bd i = false → ∀ j : Nat, j < i + 1 → bd j = false := fun h j hj => by
      by_cases hji : j = i
      · rw [hji]; exact h
      · exact hno j (by omega)
    clear c4 c5 cn hb hbad hcc hno cr crt
    generalize decide ((i : Int) ∈ V4) = a4 at *
    generalize decide ((i : Int) ∈ V5) = a5 at *
    generalize nm i = am at *
    by_cases hge : (i : Int) ≥ tn
    · rw [decide_eq_true hge] at e
      cases a4 <;> cases am <;> cases a5
      all_goals
        have e' := e
        simp only [Bool.not_true, Bool.not_false, Bool.and_true, Bool.and_false, Bool.true_and, Bool.false_and, Bool.or_true, Bool.or_false, Bool.true_or, Bool.false_or] at e'
        clear e
        (repeat' (first|(with_reducible first|(refine hK _ _ ?_;clear hK K)|(refine hA ?_;clear hA hB A B)|(refine hB ?_;clear hA hB A B)|(refine hK _ ?_;clear hK K))|((with_reducible refine gO ?_);(first|((with_reducible first|refine z25 ?_|refine z26 ?_);intro K hK;(conv=>whnf))|(with_reducible refine z0 ?_)))|((first|((with_reducible refine gV ?_);(((with_reducible refine NV.i64 ?s ?_);case s=>omega)))|((with_reducible refine gI ?_);(first|with_reducible refine NIf.not_ ?_|((with_reducible refine NIf.decY ?s ?_);case s=>first|assumption|omega)|((with_reducible refine NIf.yes ?s ?_);case s=>rfl)|((with_reducible refine NIf.no ?s ?_);case s=>rfl)))|((with_reducible refine gN ?_);(with_reducible refine NN.a5 ?_))|((with_reducible refine gH ?_);((with_reducible refine NH.mk ?s ?_);case s=>(and_intros<;>with_reducible rfl)))|((with_reducible refine gC ?_);(first|((with_reducible refine NCall.isF 40 ?_);refine NCall.subE [0] (d4) rfl (by decide) rfl rfl ?_)|((with_reducible refine NCall.isF 40 ?_);refine NCall.subE [0] (d5) rfl (by decide) rfl rfl ?_)|((with_reducible refine NCall.isF 12 ?_);refine NCall.subE [0] (dn) rfl (by decide) rfl rfl ?_))))<;>(conv=>whnf))|((with_reducible refine gX ?_);(first|(with_reducible first|refine z3 ?_|refine z4 ?_|refine z5 ?_|refine z6 ?_|refine z8 ?_)|((with_reducible refine z29 ?_);intro A B hA hB;(conv=>whnf))))|(with_reducible first|refine z1 ?_|refine z2 ?_|refine z9 ?_|refine z12 ?_|refine z13 ?_|refine z20 ?_)|((with_reducible refine gR ?_);((refine z31 rfl ?_);intro K hK;(conv=>whnf)))))
      all_goals first
        | exact ⟨by simp only [hfin e', Bool.true_eq_false, if_false], MemFits.pre 1 rfl⟩
        | refine st_round (i + 1) ⟨hlt, hnext e'⟩ (by omega) ?_ (MemFits.pre 3 rfl)
      all_goals repeat (first | exact FitsSl.nil | refine FitsSl.any ?_ | refine FitsSl.cons (Fit1.int (by first | rfl | omega)) ?_ | refine FitsSl.cons (Fit1.bool rfl) ?_ | refine FitsSl.cons (Fit1.str rfl) ?_ | refine FitsSl.cons (Fit1.same (by intro h; cases h) (by with_reducible rfl)) ?_ | refine FitsSl.cons Fit1.nil_sl ?_ | refine FitsSl.cons (Fit1.hs rfl) ?_ | refine FitsSl.cons (Fit1.hp rfl rfl) ?_ | refine FitsSl.cons (Fit1.sl rfl) ?_ | refine FitsSl.cons (Fit1.ptr rfl rfl) ?_ | refine FitsSl.cons Fit1.raw ?_)
    · rw [decide_eq_false hge] at e
      cases a4 <;> cases am <;> cases a5
      all_goals
        have e' := e
        simp only [Bool.not_true, Bool.not_false, Bool.and_true, Bool.and_false, Bool.true_and, Bool.false_and, Bool.or_true, Bool.or_false, Bool.true_or, Bool.false_or] at e'
        clear e
        (repeat' (first|(with_reducible first|(refine hK _ _ ?_;clear hK K)|(refine hA ?_;clear hA hB A B)|(refine hB ?_;clear hA hB A B)|(refine hK _ ?_;clear hK K))|((with_reducible refine gO ?_);(first|((with_reducible first|refine z25 ?_|refine z26 ?_);intro K hK;(conv=>whnf))|(with_reducible refine z0 ?_)))|((first|((with_reducible refine gV ?_);(((with_reducible refine NV.i64 ?s ?_);case s=>omega)))|((with_reducible refine gI ?_);(first|with_reducible refine NIf.not_ ?_|((with_reducible refine NIf.decY ?s ?_);case s=>omega)|((with_reducible refine NIf.decN ?s ?_);case s=>assumption)|((with_reducible refine NIf.yes ?s ?_);case s=>rfl)|((with_reducible refine NIf.no ?s ?_);case s=>rfl)))|((with_reducible refine gN ?_);(with_reducible refine NN.a5 ?_))|((with_reducible refine gH ?_);((with_reducible refine NH.mk ?s ?_);case s=>(and_intros<;>with_reducible rfl)))|((with_reducible refine gC ?_);(first|((with_reducible refine NCall.isF 40 ?_);refine NCall.subE [0] (d4) rfl (by decide) rfl rfl ?_)|((with_reducible refine NCall.isF 40 ?_);refine NCall.subE [0] (d5) rfl (by decide) rfl rfl ?_)|((with_reducible refine NCall.isF 12 ?_);refine NCall.subE [0] (dn) rfl (by decide) rfl rfl ?_))))<;>(conv=>whnf))|((with_reducible refine gX ?_);(first|(with_reducible first|refine z3 ?_|refine z4 ?_|refine z5 ?_|refine z6 ?_|refine z8 ?_)|((with_reducible refine z29 ?_);intro A B hA hB;(conv=>whnf))))|(with_reducible first|refine z1 ?_|refine z2 ?_|refine z9 ?_|refine z12 ?_|refine z13 ?_|refine z20 ?_)|((with_reducible refine gR ?_);((refine z31 rfl ?_);intro K hK;(conv=>whnf)))))
      all_goals first
        | exact ⟨by simp only [hfin e', Bool.true_eq_false, if_false], MemFits.pre 1 rfl⟩
        | refine st_round (i + 1) ⟨hlt, hnext e'⟩ (by omega) ?_ (MemFits.pre 3 rfl)
      all_goals repeat (first | exact FitsSl.nil | refine FitsSl.any ?_ | refine FitsSl.cons (Fit1.int (by first | rfl | omega)) ?_ | refine FitsSl.cons (Fit1.bool rfl) ?_ | refine FitsSl.cons (Fit1.str rfl) ?_ | refine FitsSl.cons (Fit1.same (by intro h; cases h) (by with_reducible rfl)) ?_ | refine FitsSl.cons Fit1.nil_sl ?_ | refine FitsSl.cons (Fit1.hs rfl) ?_ | refine FitsSl.cons (Fit1.hp rfl rfl) ?_ | refine FitsSl.cons (Fit1.sl rfl) ?_ | refine FitsSl.cons (Fit1.ptr rfl rfl) ?_ | refine FitsSl.cons Fit1.raw ?_)
  · obtain rfl : i = 8 := by omega
    have hz := hbad.1 fun j hj => hno j hj
    obtain ⟨hb4, hb5⟩ := hz
    subst hb4 hb5
    clear c4 c5 cn hb hbad hno cr crt
    (repeat' (first|(with_reducible first|(refine hK _ _ ?_;clear hK K)|(refine hA ?_;clear hA hB A B)|(refine hB ?_;clear hA hB A B)|(refine hK _ ?_;clear hK K))|((with_reducible refine gO ?_);(first|((with_reducible refine z25 ?_);intro K hK;(conv=>whnf))|(with_reducible refine z0 ?_)))|((first|((with_reducible refine gI ?_);(first|((with_reducible refine NIf.decN ?s ?_);case s=>omega)|(with_reducible refine NIf.dec (fun _=>?_) (fun _=>?_))))|((with_reducible refine gH ?_);((with_reducible refine NH.mk ?s ?_);case s=>(and_intros<;>with_reducible rfl)))|((with_reducible refine gC ?_);((with_reducible refine NCall.isF 15 ?_);refine NCall.subE [0] (hcc) rfl (by decide) rfl rfl ?_)))<;>(conv=>whnf))|((with_reducible refine gX ?_);(first|(with_reducible first|refine z3 ?_|refine z4 ?_|refine z6 ?_|refine z7 ?_|refine z8 ?_)|((with_reducible refine z29 ?_);intro A B hA hB;(conv=>whnf))))|(with_reducible first|refine z1 ?_|refine z2 ?_|refine z10 ?_|refine z11 ?_|refine z12 ?_|refine z19 ?_)|((with_reducible refine gR ?_);((refine z31 rfl ?_);intro K hK;(conv=>whnf)))))
    all_goals
      refine ⟨?_, MemFits.pre 1 rfl⟩
      simp
      omega
end Go.Proofs.YtpkjnmddembkjaaGreatDoor
namespace Go.Proofs.YtpkjnmddembkjaaGreatDoor
open Go.Sx
set_option maxRecDepth 20000
set_option linter.unusedVariables false
namespace Pd
def word (f : Int) : List UInt8 :=
  if f = 0 then [115, 114, 99] else if f = 1 then [100, 115, 116] else if f = 2 then [107, 105, 110, 100] else if f = 3 then [116, 97, 103] else if f = 4 then [112, 111, 114, 116] else [115, 119, 105, 116, 99, 104]
def sepOf (k : Int) : List UInt8 := if k = 5 then [32, 97, 110, 100, 32] else [32, 111, 114, 32]
def innerT (k : Int) (s : List UInt8) : List UInt8 := if k = 5 ∨ k = 6 then 40 :: (s ++ [41]) else s
mutual
def text : T → List UInt8
  | .mk k f v l => if k = 1 then [116, 114, 117, 101] else if k = 2 then [102, 97, 108, 115, 101] else if k = 3 then word f ++ ([32, 61, 32] ++ Lib.itoa v)
    else if k = 4 then [110, 111, 116, 32] ++ Lib.join (parts l) [] else Lib.join (parts l) (sepOf k)
def parts : List T → List (List UInt8)
  | [] => []
  | p :: l => innerT p.k (text p) :: parts l
end
theorem parts_map (l : List T) : parts l = l.map fun p => innerT p.k (text p) := by
  induction l with
  | nil => rfl
  | cons p l ih => rw [parts, ih]; rfl
theorem parts_take {l : List T} {i : Nat} (h : i < l.length) : parts (l.take (i + 1)) = parts (l.take i) ++ [innerT l[i].k (text l[i])] := by
  rw [parts_map, parts_map, List.take_add_one, List.getElem?_eq_getElem h, List.map_append]
  rfl
theorem parts_len (l : List T) : (parts l).length = l.length := by rw [parts_map, List.length_map]
theorem word_len (f : Int) : (word f).length ≤ 6 := by
  unfold word
  repeat' split
  all_goals decide
theorem innerT_len (k : Int) (s : List UInt8) : (innerT k s).length ≤ s.length + 2 := by
  unfold innerT
  split
  · simp
  · omega
theorem joinTail_len (sep : List UInt8) : ∀ r : List (List UInt8), (Lib.joinTail sep r).length = (r.map fun x => sep.length + x.length).sum
  | [] => rfl
  | x :: r => by
    have := joinTail_len sep r
    unfold Lib.joinTail at *
    simp only [List.map_cons, List.flatten_cons, List.length_append, List.sum_cons, this]
theorem join_le (sep : List UInt8) (r : List (List UInt8)) : (Lib.join r sep).length ≤ (r.map fun x => sep.length + x.length).sum := by
  cases r with
  | nil => simp [Lib.join, List.intercalate]
  | cons x r =>
    rw [Lib.join_cons, List.length_append, joinTail_len, List.map_cons, List.sum_cons]
    omega
theorem top_lt (f : Int) : top f ≤ 255 := by unfold top; split <;> first | omega | (split <;> first | omega | (split <;> omega))
mutual
theorem text_len : ∀ p : T, fits p = true → (text p).length + 7 ≤ 40 * size p
  | .mk k f v l, h => by
    rw [fits, Bool.and_eq_true] at h
    have hp := parts_sum l h.2
    have hj0 := join_le [] (parts l)
    have hj := join_le (sepOf k) (parts l)
    have hs : (sepOf k).length ≤ 5 := by unfold sepOf; split <;> decide
    have h0 : ((parts l).map fun x => ([] : List UInt8).length + x.length).sum ≤ ((parts l).map fun x => 5 + x.length).sum := sum_le _ (by simp)
    have h5 : ((parts l).map fun x => (sepOf k).length + x.length).sum ≤ ((parts l).map fun x => 5 + x.length).sum := sum_le _ hs
    have hw := word_len f
    rw [size, text]
    split
    · simp only [List.length_cons, List.length_nil]; omega
    split
    · simp only [List.length_cons, List.length_nil]; omega
    split
    · rename_i hk
      have h1 := h.1
      unfold shape at h1
      rw [decide_eq_true_eq] at h1
      have ht := top_lt f
      have := Lib.itoa_length_le v (by omega) (by omega)
      simp only [List.length_append, List.length_cons, List.length_nil]
      omega
    split
    · simp only [List.length_append, List.length_cons, List.length_nil]; omega
    · omega
theorem parts_sum : ∀ l : List T, fitsL l = true → ((parts l).map fun x => 5 + x.length).sum ≤ 40 * sizeL l
  | [], _ => by simp [parts]
  | p :: l, h => by
    rw [fitsL, Bool.and_eq_true] at h
    have h1 := text_len p h.1
    have h2 := parts_sum l h.2
    have h3 := innerT_len p.k (text p)
    rw [parts, sizeL, List.map_cons, List.sum_cons]
    omega
theorem sum_le {a b : Nat} : ∀ r : List (List UInt8), a ≤ b → (r.map fun x => a + x.length).sum ≤ (r.map fun x => b + x.length).sum
  | [], _ => by simp
  | x :: r, h => by have := sum_le r h; rw [List.map_cons, List.map_cons, List.sum_cons, List.sum_cons]; omega
end
end Pd
end Go.Proofs.YtpkjnmddembkjaaGreatDoor
