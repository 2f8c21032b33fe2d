/-
  Conditions: how great and deep by the document; the same; numbers of fields.
-/
import Derived.Test.YtngodakgbldlpaaGreatDoorTPd2
namespace Go.Proofs.YtngodakgbldlpaaGreatDoor
open Go.Sx
set_option maxRecDepth 20000
set_option linter.unusedSimpArgs false
set_option linter.unusedVariables false
set_option maxHeartbeats 2000000
set_option linter.unusedVariables false
theorem pd_cs (k f v : Int) (l : List Pd.T) (u : Value) : Pd.cs (.mk k f v l) u = [.int .i64 k, .int .i64 f, .int .i64 v, .hs u l.length] := rfl
section
variable (F : Heap)
theorem refsize26_c : ∀ (n : Nat) (p : Pd.T) (u : Value), Pd.size p ≤ n → Pd.size p ≤ 4611686018427387904 → Pd.Row F u p.l →
    NCall Tryz.prog 32 [.agg (Pd.cs p u)] [hpB F] fun r m => r = .int .i64 (Pd.size p : Nat) ∧ m = [hpB F]
  | 0, p, u, hn, _, _ => absurd (Pd.size_pos p) (by omega)
  | n + 1, ⟨k, f, v, l⟩, u, hn, hs, hu => by
    refine NCall.fits (K := fun r m => r = .int .i64 (Pd.size (.mk k f v l) : Nat) ∧ MemFits m [hpB F]) ?_ fun r m' h => ⟨r, _, rfl, h.2, h.1, rfl⟩
    have hu : Pd.Row F u l := hu
    have hok := hu.ok
    have e : Pd.size (.mk k f v l) = 1 + Pd.sizeL l := by rw [Pd.size]
    have hll := Pd.length_le l
    have ih : ∀ x ∈ l, ∀ w, Pd.Row F w x.l → _ := fun x hx w hw => refsize26_c n x w (by have := Pd.size_lt (k := k) (f := f) (v := v) hx; omega) (by have := Pd.size_lt (k := k) (f := f) (v := v) hx; omega) hw
    refine ncall_of Tryz.func32 rfl (by decide) ?_
    rw [pd_cs]
    repeat' first|(refine sxZ ?_;try clear hK K)|refine sxW ?_ ?_<;>intro _|(intro K hK _;(conv=>whnf))
    refine st_auto (α := Nat) (fun i => i ≤ l.length) (fun i => [.keep, .keep, .keep, .set (.int .i64 (1 + Pd.sizeL (l.take i) : Nat)), .set (.int .i64 i), .drop, .drop, .drop, .drop, .drop, .drop, .drop, .drop, .drop, .drop, .drop, .drop, .drop, .drop, .drop, .keep]) (fun _ => []) (fun i => l.length - i) 0 (Nat.zero_le _) ?_ (MemFits.eq rfl) ?_
    · repeat (first | exact FitsSl.nil | refine FitsSl.any ?_ | refine FitsSl.cons (Fit1.int (by  simp [Pd.sizeL])) ?_ | refine FitsSl.cons (Fit1.int (by first | rfl | omega)) ?_ | refine FitsSl.cons (Fit1.bool rfl) ?_ | refine FitsSl.cons (Fit1.str rfl) ?_ | refine FitsSl.cons (Fit1.same (by intro h; cases h) (by with_reducible rfl)) ?_ | refine FitsSl.cons Fit1.nil_sl ?_ | refine FitsSl.cons (Fit1.hs rfl) ?_ | refine FitsSl.cons (Fit1.hp rfl rfl) ?_ | refine FitsSl.cons (Fit1.sl rfl) ?_ | refine FitsSl.cons (Fit1.ptr rfl rfl) ?_ | refine FitsSl.cons Fit1.raw ?_)
    (intro i hi; intro K hK; (conv=>whnf); refine hK _ _ ?_; clear hK K)
    have hle := Pd.sizeL_le (l := l) (k := i)
    by_cases hlt : i < l.length
    · have hx : l[i]? = some l[i] := List.getElem?_eq_getElem hlt
      obtain ⟨A, cap, hA, c0, c1, c2, c3⟩ := hu.get hx
      have hmem := List.mem_of_getElem? hx
      have hnx := Pd.sizeL_take hlt
      have hle2 := Pd.sizeL_le (l := l) (k := i + 1)
      have c := ih _ hmem _ hA
      simp only [Pd.cs] at c
      generalize l[i] = x at *
      generalize Pd.size x = sx at *
      generalize Pd.sizeL (l.take i) = si at *
      repeat' first|(intro K hK;(with_reducible refine gC ?_);refine cS [0] c ?_)|(refine sxZ ?_;try clear hK K)|refine sxW ?_ ?_<;>intro _|(intro K hK _;(conv=>whnf))
      refine st_round (i + 1) hlt (by omega) ?_ (MemFits.eq rfl)
      repeat (first | exact FitsSl.nil | refine FitsSl.any ?_ | refine FitsSl.cons (Fit1.int (by  omega)) ?_ | refine FitsSl.cons (Fit1.int (by first | rfl | omega)) ?_ | refine FitsSl.cons (Fit1.bool rfl) ?_ | refine FitsSl.cons (Fit1.str rfl) ?_ | refine FitsSl.cons (Fit1.same (by intro h; cases h) (by with_reducible rfl)) ?_ | refine FitsSl.cons Fit1.nil_sl ?_ | refine FitsSl.cons (Fit1.hs rfl) ?_ | refine FitsSl.cons (Fit1.hp rfl rfl) ?_ | refine FitsSl.cons (Fit1.sl rfl) ?_ | refine FitsSl.cons (Fit1.ptr rfl rfl) ?_ | refine FitsSl.cons Fit1.raw ?_)
    · have hkl : i = l.length := by omega
      subst hkl
      rw [List.take_length] at hle ⊢
      repeat' first|(refine sxZ ?_;try clear hK K)|refine sxW ?_ ?_<;>intro _|(intro K hK _;(conv=>whnf))
      all_goals exact ⟨by rw [e], MemFits.pre 1 rfl⟩
theorem deep26_c : ∀ (n : Nat) (p : Pd.T) (u : Value), Pd.size p ≤ n → Pd.size p ≤ 4611686018427387904 → Pd.Row F u p.l →
    NCall Tryz.prog 125 [.agg (Pd.cs p u)] [hpB F] fun r m => r = .int .i64 (Pd.deep p : Nat) ∧ m = [hpB F]
  | 0, p, u, hn, _, _ => absurd (Pd.size_pos p) (by omega)
  | n + 1, ⟨k, f, v, l⟩, u, hn, hs, hu => by
    refine NCall.fits (K := fun r m => r = .int .i64 (Pd.deep (.mk k f v l) : Nat) ∧ MemFits m [hpB F]) ?_ fun r m' h => ⟨r, _, rfl, h.2, h.1, rfl⟩
    have hu : Pd.Row F u l := hu
    have hok := hu.ok
    have e : Pd.deep (.mk k f v l) = 1 + Pd.deepL l := by rw [Pd.deep]
    have e2 : Pd.size (.mk k f v l) = 1 + Pd.sizeL l := by rw [Pd.size]
    have hll := Pd.length_le l
    have ih : ∀ x ∈ l, ∀ w, Pd.Row F w x.l → _ := fun x hx w hw => deep26_c n x w (by have := Pd.size_lt (k := k) (f := f) (v := v) hx; omega) (by have := Pd.size_lt (k := k) (f := f) (v := v) hx; omega) hw
    refine ncall_of Tryz.func125 rfl (by decide) ?_
    rw [pd_cs]
    repeat' first|(refine sxZ ?_;try clear hK K)|refine sxW ?_ ?_<;>intro _|(intro K hK _;(conv=>whnf))
    refine st_auto (α := Nat) (fun i => i ≤ l.length) (fun i => [.keep, .keep, .keep, .set (.int .i64 (Pd.deepL (l.take i) : Nat)), .keep, .drop, .keep, .keep, .keep, .set (.int .i64 i), .drop, .drop, .drop, .drop, .drop, .drop, .drop, .drop, .keep, .keep]) (fun _ => []) (fun i => l.length - i) 0 (Nat.zero_le _) ?_ (MemFits.eq rfl) ?_
    · repeat (first | exact FitsSl.nil | refine FitsSl.any ?_ | refine FitsSl.cons (Fit1.int (by  simp [Pd.deepL])) ?_ | refine FitsSl.cons (Fit1.int (by first | rfl | omega)) ?_ | refine FitsSl.cons (Fit1.bool rfl) ?_ | refine FitsSl.cons (Fit1.str rfl) ?_ | refine FitsSl.cons (Fit1.same (by intro h; cases h) (by with_reducible rfl)) ?_ | refine FitsSl.cons Fit1.nil_sl ?_ | refine FitsSl.cons (Fit1.hs rfl) ?_ | refine FitsSl.cons (Fit1.hp rfl rfl) ?_ | refine FitsSl.cons (Fit1.sl rfl) ?_ | refine FitsSl.cons (Fit1.ptr rfl rfl) ?_ | refine FitsSl.cons Fit1.raw ?_)
    (intro i hi; intro K hK; (conv=>whnf); refine hK _ _ ?_; clear hK K)
    have hle := Nat.le_trans (Pd.deepL_size (l.take i)) (Pd.sizeL_le (l := l) (k := i))
    by_cases hlt : i < l.length
    · have hx : l[i]? = some l[i] := List.getElem?_eq_getElem hlt
      obtain ⟨A, cap, hA, c0, c1, c2, c3⟩ := hu.get hx
      have hmem := List.mem_of_getElem? hx
      have hnx := Pd.deepL_take hlt
      have hle2 := Nat.le_trans (Pd.deepL_size (l.take (i + 1))) (Pd.sizeL_le (l := l) (k := i + 1))
      have c := ih _ hmem _ hA
      simp only [Pd.cs] at c
      generalize l[i] = x at *
      generalize Pd.deep x = sx at *
      generalize Pd.deepL (l.take i) = si at *
      repeat' first|(intro K hK;(with_reducible refine gC ?_);refine cS [0] c ?_)|(refine sxZ ?_;try clear hK K)|refine sxW ?_ ?_<;>intro _|(intro K hK _;(conv=>whnf))
      refine st_round (i + 1) hlt (by omega) ?_ (MemFits.pre 2 rfl)
      repeat (first | exact FitsSl.nil | refine FitsSl.any ?_ | refine FitsSl.cons (Fit1.int (by  omega)) ?_ | refine FitsSl.cons (Fit1.int (by first | rfl | omega)) ?_ | refine FitsSl.cons (Fit1.bool rfl) ?_ | refine FitsSl.cons (Fit1.str rfl) ?_ | refine FitsSl.cons (Fit1.same (by intro h; cases h) (by with_reducible rfl)) ?_ | refine FitsSl.cons Fit1.nil_sl ?_ | refine FitsSl.cons (Fit1.hs rfl) ?_ | refine FitsSl.cons (Fit1.hp rfl rfl) ?_ | refine FitsSl.cons (Fit1.sl rfl) ?_ | refine FitsSl.cons (Fit1.ptr rfl rfl) ?_ | refine FitsSl.cons Fit1.raw ?_)
    · have hkl : i = l.length := by omega
      subst hkl
      rw [List.take_length] at hle ⊢
      repeat' first|(refine sxZ ?_;try clear hK K)|refine sxW ?_ ?_<;>intro _|(intro K hK _;(conv=>whnf))
      all_goals exact ⟨by rw [e]; congr 1; omega, MemFits.pre 1 rfl⟩
theorem refdeep26_c : ∀ (n : Nat) (p : Pd.T) (u : Value), Pd.size p ≤ n → Pd.size p ≤ 4611686018427387904 → Pd.Row F u p.l →
    NCall Tryz.prog 33 [.agg (Pd.cs p u)] [hpB F] fun r m => r = .int .i64 (Pd.deep p : Nat) ∧ m = [hpB F]
  | 0, p, u, hn, _, _ => absurd (Pd.size_pos p) (by omega)
  | n + 1, ⟨k, f, v, l⟩, u, hn, hs, hu => by
    refine NCall.fits (K := fun r m => r = .int .i64 (Pd.deep (.mk k f v l) : Nat) ∧ MemFits m [hpB F]) ?_ fun r m' h => ⟨r, _, rfl, h.2, h.1, rfl⟩
    have hu : Pd.Row F u l := hu
    have hok := hu.ok
    have e : Pd.deep (.mk k f v l) = 1 + Pd.deepL l := by rw [Pd.deep]
    have e2 : Pd.size (.mk k f v l) = 1 + Pd.sizeL l := by rw [Pd.size]
    have hll := Pd.length_le l
    have ih : ∀ x ∈ l, ∀ w, Pd.Row F w x.l → _ := fun x hx w hw => refdeep26_c n x w (by have := Pd.size_lt (k := k) (f := f) (v := v) hx; omega) (by have := Pd.size_lt (k := k) (f := f) (v := v) hx; omega) hw
    refine ncall_of Tryz.func33 rfl (by decide) ?_
    rw [pd_cs]
    repeat' first|(refine sxZ ?_;try clear hK K)|refine sxW ?_ ?_<;>intro _|(intro K hK _;(conv=>whnf))
    refine st_auto (α := Nat) (fun i => i ≤ l.length) (fun i => [.keep, .keep, .keep, .set (.int .i64 (1 + Pd.deepL (l.take i) : Nat)), .set (.int .i64 i), .drop, .drop, .drop, .drop, .drop, .drop, .drop, .drop, .drop, .drop, .drop, .drop, .drop, .drop, .drop, .drop, .drop, .drop, .drop, .drop, .drop, .drop, .drop, .keep]) (fun _ => []) (fun i => l.length - i) 0 (Nat.zero_le _) ?_ (MemFits.eq rfl) ?_
    · repeat (first | exact FitsSl.nil | refine FitsSl.any ?_ | refine FitsSl.cons (Fit1.int (by  simp [Pd.deepL])) ?_ | refine FitsSl.cons (Fit1.int (by first | rfl | omega)) ?_ | refine FitsSl.cons (Fit1.bool rfl) ?_ | refine FitsSl.cons (Fit1.str rfl) ?_ | refine FitsSl.cons (Fit1.same (by intro h; cases h) (by with_reducible rfl)) ?_ | refine FitsSl.cons Fit1.nil_sl ?_ | refine FitsSl.cons (Fit1.hs rfl) ?_ | refine FitsSl.cons (Fit1.hp rfl rfl) ?_ | refine FitsSl.cons (Fit1.sl rfl) ?_ | refine FitsSl.cons (Fit1.ptr rfl rfl) ?_ | refine FitsSl.cons Fit1.raw ?_)
    (intro i hi; intro K hK; (conv=>whnf); refine hK _ _ ?_; clear hK K)
    have hle := Nat.le_trans (Pd.deepL_size (l.take i)) (Pd.sizeL_le (l := l) (k := i))
    by_cases hlt : i < l.length
    · have hx : l[i]? = some l[i] := List.getElem?_eq_getElem hlt
      obtain ⟨A, cap, hA, c0, c1, c2, c3⟩ := hu.get hx
      have hmem := List.mem_of_getElem? hx
      have hnx := Pd.deepL_take hlt
      have hle2 := Nat.le_trans (Pd.deepL_size (l.take (i + 1))) (Pd.sizeL_le (l := l) (k := i + 1))
      have c := ih _ hmem _ hA
      simp only [Pd.cs] at c
      generalize l[i] = x at *
      generalize Pd.deep x = sx at *
      generalize Pd.deepL (l.take i) = si at *
      repeat' first|(intro K hK;(with_reducible refine gC ?_);refine cS [0] c ?_)|(refine sxZ ?_;try clear hK K)|refine sxW ?_ ?_<;>intro _|(intro K hK _;(conv=>whnf))
      all_goals refine st_round (i + 1) hlt (by omega) ?_ (MemFits.eq rfl)
      all_goals repeat (first | exact FitsSl.nil | refine FitsSl.any ?_ | refine FitsSl.cons (Fit1.int (by  omega)) ?_ | refine FitsSl.cons (Fit1.int (by first | rfl | omega)) ?_ | refine FitsSl.cons (Fit1.bool rfl) ?_ | refine FitsSl.cons (Fit1.str rfl) ?_ | refine FitsSl.cons (Fit1.same (by intro h; cases h) (by with_reducible rfl)) ?_ | refine FitsSl.cons Fit1.nil_sl ?_ | refine FitsSl.cons (Fit1.hs rfl) ?_ | refine FitsSl.cons (Fit1.hp rfl rfl) ?_ | refine FitsSl.cons (Fit1.sl rfl) ?_ | refine FitsSl.cons (Fit1.ptr rfl rfl) ?_ | refine FitsSl.cons Fit1.raw ?_)
    · have hkl : i = l.length := by omega
      subst hkl
      rw [List.take_length] at hle ⊢
      repeat' first|(refine sxZ ?_;try clear hK K)|refine sxW ?_ ?_<;>intro _|(intro K hK _;(conv=>whnf))
      all_goals exact ⟨by rw [e], MemFits.pre 1 rfl⟩
end
theorem bits26_c (f : Int) : NCall Tryz.prog 139 [.int .i64 f] [] fun r _ => r = .int .i64 (if f = 2 then 4 else if f = 0 ∨ f = 1 ∨ f = 3 then 8 else 0) := by
  refine ncall_of Tryz.func139 rfl (by decide) ?_
  by_cases h : 0 ≤ f ∧ f ≤ 3
  · have : f = 0 ∨ f = 1 ∨ f = 2 ∨ f = 3 := by omega
    rcases this with rfl | rfl | rfl | rfl
    all_goals (repeat' first|(refine sxZ ?_;try clear hK K)|refine sxW ?_ ?_<;>intro _|(intro K hK _;(conv=>whnf)))
    all_goals rfl
  · rw [if_neg (by omega), if_neg (by omega)]
    repeat' first|(refine sxZ ?_;try clear hK K)|refine sxW ?_ ?_<;>intro _|(intro K hK _;(conv=>whnf))
    all_goals first | rfl | (exfalso; omega)
theorem ptop26_c (f : Int) : NCall Tryz.prog 116 [.int .i64 f] [] fun r _ => r = .int .i64 (if f = 2 then 15 else if f = 0 ∨ f = 1 ∨ f = 3 then 255 else 0) := by
  have c := bits26_c f
  have e4 : IntKind.i64.wrap (1 * 2 ^ min (Int.toNat 4) IntKind.i64.bits) = 16 := by decide +kernel
  have e8 : IntKind.i64.wrap (1 * 2 ^ min (Int.toNat 8) IntKind.i64.bits) = 256 := by decide +kernel
  have e0 : IntKind.i64.wrap (1 * 2 ^ min (Int.toNat 0) IntKind.i64.bits) = 1 := by decide +kernel
  refine ncall_of Tryz.func116 rfl (by decide) ?_
  by_cases h2 : f = 2
  · rw [if_pos h2] at c ⊢
    (repeat' (first|(with_reducible first|(refine hK _ _ ?_;clear hK K)|(refine hA ?_;clear hA hB A B)|(refine hB ?_;clear hA hB A B)|(refine hK _ ?_;clear hK K))|((first|((with_reducible refine gC ?_);(refine NCall.pureE (c) ?_))|((with_reducible refine gV ?_);((with_reducible refine NV.eq (e4) ?_))))<;>(conv=>whnf))|(refine sxEA ?_)|(refine sxSA ?_)|((with_reducible refine gX ?_);(refine z34 (by kernel_rfl) (by kernel_rfl) ?_))|(refine sxIA ?_;intro K hK;(conv=>whnf))|(refine sxCA ?_;intro A B hA hB;(conv=>whnf))|((with_reducible first|refine NIf.dec (fun _=>?_) (fun _=>?_)|refine NIf.both (fun _=>?_) (fun _=>?_))<;>(conv=>whnf))|((intro _;skip)<;>(conv=>whnf))))
    all_goals rfl
  · rw [if_neg h2] at c ⊢
    by_cases h3 : f = 0 ∨ f = 1 ∨ f = 3
    · rw [if_pos h3] at c ⊢
      (repeat' (first|(with_reducible first|(refine hK _ _ ?_;clear hK K)|(refine hA ?_;clear hA hB A B)|(refine hB ?_;clear hA hB A B)|(refine hK _ ?_;clear hK K))|((first|((with_reducible refine gC ?_);(refine NCall.pureE (c) ?_))|((with_reducible refine gV ?_);((with_reducible refine NV.eq (e8) ?_))))<;>(conv=>whnf))|(refine sxEA ?_)|(refine sxSA ?_)|((with_reducible refine gX ?_);(refine z34 (by kernel_rfl) (by kernel_rfl) ?_))|(refine sxIA ?_;intro K hK;(conv=>whnf))|(refine sxCA ?_;intro A B hA hB;(conv=>whnf))|((with_reducible first|refine NIf.dec (fun _=>?_) (fun _=>?_)|refine NIf.both (fun _=>?_) (fun _=>?_))<;>(conv=>whnf))|((intro _;skip)<;>(conv=>whnf))))
      all_goals rfl
    · rw [if_neg h3] at c ⊢
      (repeat' (first|(with_reducible first|(refine hK _ _ ?_;clear hK K)|(refine hA ?_;clear hA hB A B)|(refine hB ?_;clear hA hB A B)|(refine hK _ ?_;clear hK K))|((first|((with_reducible refine gC ?_);(refine NCall.pureE (c) ?_))|((with_reducible refine gV ?_);((with_reducible refine NV.eq (e0) ?_))))<;>(conv=>whnf))|(refine sxEA ?_)|(refine sxSA ?_)|((with_reducible refine gX ?_);(refine z34 (by kernel_rfl) (by kernel_rfl) ?_))|(refine sxIA ?_;intro K hK;(conv=>whnf))|(refine sxCA ?_;intro A B hA hB;(conv=>whnf))|((with_reducible first|refine NIf.dec (fun _=>?_) (fun _=>?_)|refine NIf.both (fun _=>?_) (fun _=>?_))<;>(conv=>whnf))|((intro _;skip)<;>(conv=>whnf))))
      all_goals rfl
theorem rptop26_c (f : Int) : NCall Tryz.prog 75 [.int .i64 f] [] fun r _ => r = .int .i64 (if f = 2 then 15 else if f = 0 ∨ f = 1 ∨ f = 3 then 255 else 0) := by
  refine ncall_of Tryz.func75 rfl (by decide) ?_
  by_cases h2 : f = 2
  · rw [if_pos h2]
    repeat' first|(refine sxZ ?_;try clear hK K)|refine sxW ?_ ?_<;>intro _|(intro K hK _;(conv=>whnf))
    all_goals first | rfl | (exfalso; omega)
  · rw [if_neg h2]
    by_cases h3 : f = 0 ∨ f = 1 ∨ f = 3
    · rw [if_pos h3]
      repeat' first|(refine sxZ ?_;try clear hK K)|refine sxW ?_ ?_<;>intro _|(intro K hK _;(conv=>whnf))
      all_goals first | rfl | (exfalso; omega)
    · rw [if_neg h3]
      repeat' first|(refine sxZ ?_;try clear hK K)|refine sxW ?_ ?_<;>intro _|(intro K hK _;(conv=>whnf))
      all_goals first | rfl | (exfalso; omega)
theorem top26_c (f : Int) : NCall Tryz.prog 94 [.int .i64 f] [] fun r _ => r = .int .i64 (Pd.top f) := by
  have c := ptop26_c f
  refine ncall_of Tryz.func94 rfl (by decide) ?_
  unfold Pd.top
  by_cases h : f = 4 ∨ f = 5
  · rw [if_pos h]
    repeat' first|(refine sxZ ?_;try clear hK K)|refine sxW ?_ ?_<;>intro _|(intro K hK _;(conv=>whnf))
    all_goals first | rfl | (exfalso; omega)
  · rw [if_neg h]
    repeat' first|(intro K hK;(with_reducible refine gC ?_);refine cP c ?_)|(refine sxZ ?_;try clear hK K)|refine sxW ?_ ?_<;>intro _|(intro K hK _;(conv=>whnf))
    all_goals first | rfl | (exfalso; omega)
theorem reftop26_c (f : Int) : NCall Tryz.prog 51 [.int .i64 f] [] fun r _ => r = .int .i64 (Pd.top f) := by
  have c := rptop26_c f
  refine ncall_of Tryz.func51 rfl (by decide) ?_
  unfold Pd.top
  by_cases h : f = 4 ∨ f = 5
  · rw [if_pos h]
    repeat' first|(refine sxZ ?_;try clear hK K)|refine sxW ?_ ?_<;>intro _|(intro K hK _;(conv=>whnf))
    all_goals first | rfl | (exfalso; omega)
  · rw [if_neg h]
    repeat' first|(intro K hK;(with_reducible refine gC ?_);refine cP c ?_)|(refine sxZ ?_;try clear hK K)|refine sxW ?_ ?_<;>intro _|(intro K hK _;(conv=>whnf))
    all_goals first | rfl | (exfalso; omega)
theorem get26_c (f : Int) (x : Pd.At) : NCall Tryz.prog 112 [.int .i64 f, .int .i64 x.sw, .int .i64 x.port, .agg [.int .i64 x.p0, .int .i64 x.p1, .int .i64 x.p2, .int .i64 x.p3]] [] fun r _ => r = .int .i64 (Pd.get f x) := by
  refine ncall_of Tryz.func112 rfl (by decide) ?_
  unfold Pd.get
  by_cases h : 0 ≤ f ∧ f ≤ 5
  · have : f = 0 ∨ f = 1 ∨ f = 2 ∨ f = 3 ∨ f = 4 ∨ f = 5 := by omega
    rcases this with rfl | rfl | rfl | rfl | rfl | rfl
    all_goals (repeat' first|(refine sxZ ?_;try clear hK K)|refine sxW ?_ ?_<;>intro _|(intro K hK _;(conv=>whnf)))
    all_goals first | rfl | (exfalso; omega)
  · rw [if_neg (by omega), if_neg (by omega), if_neg (by omega), if_neg (by omega), if_neg (by omega), if_neg (by omega)]
    repeat' first|(refine sxZ ?_;try clear hK K)|refine sxW ?_ ?_<;>intro _|(intro K hK _;(conv=>whnf))
    all_goals first | rfl | (exfalso; omega)
end Go.Proofs.YtngodakgbldlpaaGreatDoor


