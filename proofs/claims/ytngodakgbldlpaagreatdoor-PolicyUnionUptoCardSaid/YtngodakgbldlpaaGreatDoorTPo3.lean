/-
  Policies: how great, how deep, how wide. (Printed by gen_po3.py.)
-/
import Derived.Test.YtngodakgbldlpaaGreatDoorTPo2
namespace Go.Proofs.YtngodakgbldlpaaGreatDoor
open Go.Sx
set_option maxRecDepth 20000
set_option linter.unusedSimpArgs false
set_option linter.unusedVariables false
set_option maxHeartbeats 4000000
set_option linter.unusedVariables false
section
variable (F : Heap)
theorem deep27_c : ∀ (n : Nat) (x : Po.T) (pu u : Value), Po.tot x ≤ n → Po.tot x ≤ 4611686018427387904 → Po.At F x pu u →
    NCall Tryz.prog 18 [.agg (Po.cs x pu u)] [hpB F] fun r m => r = .int .i64 (Po.deep x : Nat) ∧ m = [hpB F]
  | 0, x, pu, u, hn, _, _ => absurd (Po.tot_pos x) (by omega)
  | n + 1, ⟨k, p, f, v, l⟩, pu, u, hn, hs, hx => by
    refine NCall.fits (K := fun r m => r = .int .i64 (Po.deep (.mk k p f v l) : Nat) ∧ MemFits m [hpB F]) ?_ fun r m' h => ⟨r, _, rfl, h.2, h.1, rfl⟩
    have hu : Po.Row F u l := hx.l
    have hpu : Pd.Row F pu p.l := hx.p
    have hok := hu.ok
    have hpok := hpu.ok
    have e := Po.tot_mk k p f v l
    have hll := Po.length_le l
    have ih : ∀ y ∈ l, ∀ pw w, Po.At F y pw w → _ := fun y hy pw w hw => deep27_c n y pw w (by have := Po.tot_lt (k := k) (q := p) (f := f) (v := v) hy; omega) (by have := Po.tot_lt (k := k) (q := p) (f := f) (v := v) hy; omega) hw
    have hd : Po.deep (.mk k p f v l) = 1 + Po.deepL l := by rw [Po.deep]
    rw [hd]
    refine ncall_of Tryz.func18 rfl (by decide) ?_
    rw [po_cs]
    repeat' first|(refine sxZ ?_;try clear hK K)|refine sxW ?_ ?_<;>intro _|(intro K hK _;(conv=>whnf))
    refine st_auto (α := Nat) (fun i => i ≤ l.length) (fun i => [.keep, .keep, .keep, .set (.int .i64 (Po.deepL (l.take i) : Nat)), .keep, .drop, .keep, .keep, .keep, .set (.int .i64 i), .drop, .drop, .drop, .drop, .drop, .drop, .drop, .drop, .keep, .keep]) (fun _ => []) (fun i => l.length - i) 0 (Nat.zero_le _) ?_ (MemFits.eq rfl) ?_
    · repeat (first | exact FitsSl.nil | refine FitsSl.any ?_ | refine FitsSl.cons (Fit1.int (by  simp [Po.deepL])) ?_ | refine FitsSl.cons (Fit1.int (by first | rfl | omega)) ?_ | refine FitsSl.cons (Fit1.bool rfl) ?_ | refine FitsSl.cons (Fit1.str rfl) ?_ | refine FitsSl.cons (Fit1.same (by intro h; cases h) (by with_reducible rfl)) ?_ | refine FitsSl.cons Fit1.nil_sl ?_ | refine FitsSl.cons (Fit1.hs rfl) ?_ | refine FitsSl.cons (Fit1.hp rfl rfl) ?_ | refine FitsSl.cons (Fit1.sl rfl) ?_ | refine FitsSl.cons (Fit1.ptr rfl rfl) ?_ | refine FitsSl.cons Fit1.raw ?_)
    (intro i hi; intro K hK; (conv=>whnf); refine hK _ _ ?_; clear hK K)
    by_cases hlt : i < l.length
    · have hx : l[i]? = some l[i] := List.getElem?_eq_getElem hlt
      obtain ⟨pA, pcap, A, cap, hA, c0, c1, c2, c3, c4, c5, c6, c7⟩ := hu.get hx
      have hmem := List.mem_of_getElem? hx
      have hnx := Po.deepL_take hlt
      have hle := Po.deepL_take_le (l := l) (k := i)
      have hle2 := Po.deepL_take_le (l := l) (k := i + 1)
      have hAo := hA.l.ok
      have hAp := hA.p.ok
      have c := ih _ hmem _ _ hA
      clear ih
      generalize l[i] = y at *
      generalize Po.deep y = sx at *
      generalize Po.deepL (l.take i) = si at *
      obtain ⟨yk, ⟨ypk, ypf, ypv, ypl⟩, yf, yv, yl⟩ := y
      simp only [Po.cs, Po.T.k, Po.T.p, Po.T.f, Po.T.v, Po.T.l, Pd.T.k, Pd.T.f, Pd.T.v, Pd.T.l] at c c0 c1 c2 c3 c4 c5 c6 c7 hAo hAp
      repeat' first|(intro K hK;(with_reducible refine gC ?_);refine cS [0] c ?_)|(refine sxZ ?_;try clear hK K)|refine sxW ?_ ?_<;>intro _|(intro K hK _;(conv=>whnf))
      refine st_round (i + 1) hlt (by omega) ?_ (MemFits.pre 2 rfl)
      repeat (first | exact FitsSl.nil | refine FitsSl.any ?_ | refine FitsSl.cons (Fit1.int (by  omega)) ?_ | refine FitsSl.cons (Fit1.int (by first | rfl | omega)) ?_ | refine FitsSl.cons (Fit1.bool rfl) ?_ | refine FitsSl.cons (Fit1.str rfl) ?_ | refine FitsSl.cons (Fit1.same (by intro h; cases h) (by with_reducible rfl)) ?_ | refine FitsSl.cons Fit1.nil_sl ?_ | refine FitsSl.cons (Fit1.hs rfl) ?_ | refine FitsSl.cons (Fit1.hp rfl rfl) ?_ | refine FitsSl.cons (Fit1.sl rfl) ?_ | refine FitsSl.cons (Fit1.ptr rfl rfl) ?_ | refine FitsSl.cons Fit1.raw ?_)
    · have hkl : i = l.length := by omega
      subst hkl
      have hle := Po.deepL_take_le (l := l) (k := l.length)
      rw [List.take_length] at *
      clear ih
      repeat' first|(refine sxZ ?_;try clear hK K)|refine sxW ?_ ?_<;>intro _|(intro K hK _;(conv=>whnf))
      all_goals exact ⟨by congr 1; omega, MemFits.pre 1 rfl⟩
theorem refsize27_c : ∀ (n : Nat) (x : Po.T) (pu u : Value), Po.tot x ≤ n → Po.tot x ≤ 4611686018427387904 → Po.At F x pu u →
    NCall Tryz.prog 17 [.agg (Po.cs x pu u)] [hpB F] fun r m => r = .int .i64 (Po.size x : Nat) ∧ m = [hpB F]
  | 0, x, pu, u, hn, _, _ => absurd (Po.tot_pos x) (by omega)
  | n + 1, ⟨k, p, f, v, l⟩, pu, u, hn, hs, hx => by
    refine NCall.fits (K := fun r m => r = .int .i64 (Po.size (.mk k p f v l) : Nat) ∧ MemFits m [hpB F]) ?_ fun r m' h => ⟨r, _, rfl, h.2, h.1, rfl⟩
    have hu : Po.Row F u l := hx.l
    have hpu : Pd.Row F pu p.l := hx.p
    have hok := hu.ok
    have hpok := hpu.ok
    have e := Po.tot_mk k p f v l
    have hll := Po.length_le l
    have cp := refsize26_c F _ p pu (Nat.le_refl _) (by omega) hpu
    have ih : ∀ y ∈ l, ∀ pw w, Po.At F y pw w → _ := fun y hy pw w hw => refsize27_c n y pw w (by have := Po.tot_lt (k := k) (q := p) (f := f) (v := v) hy; omega) (by have := Po.tot_lt (k := k) (q := p) (f := f) (v := v) hy; omega) hw
    have hsz : Po.size (.mk k p f v l) = 1 + (if k = 2 ∨ k = 3 ∨ k = 4 then 0 else Pd.size p) + Po.sizeL l := by rw [Po.size]
    rw [hsz]
    refine ncall_of Tryz.func17 rfl (by decide) ?_
    rw [po_cs]
    generalize hz : Pd.size p = z at *
    by_cases hk : k = 2 ∨ k = 3 ∨ k = 4
    · rw [if_pos hk, Nat.add_zero]
      rcases hk with rfl | rfl | rfl
      iterate 3
        · repeat' first|(refine sxZ ?_;try clear hK K)|refine sxW ?_ ?_<;>intro _|(intro K hK _;(conv=>whnf))
          refine st_auto (α := Nat) (fun i => i ≤ l.length) (fun i => [.keep, .keep, .keep, .set (.int .i64 (1 + Po.sizeL (l.take i) : Nat)), .set (.int .i64 i), .keep, .keep, .keep, .keep, .keep, .keep, .keep, .keep, .keep, .keep, .keep, .keep, .keep, .drop, .drop, .drop, .drop, .drop, .drop, .drop, .drop, .drop, .drop, .drop, .drop, .drop, .drop, .drop, .keep]) (fun _ => []) (fun i => l.length - i) 0 (Nat.zero_le _) ?_ (MemFits.eq rfl) ?_
          · repeat (first | exact FitsSl.nil | refine FitsSl.any ?_ | refine FitsSl.cons (Fit1.int (by  simp [Po.sizeL])) ?_ | refine FitsSl.cons (Fit1.int (by first | rfl | omega)) ?_ | refine FitsSl.cons (Fit1.bool rfl) ?_ | refine FitsSl.cons (Fit1.str rfl) ?_ | refine FitsSl.cons (Fit1.same (by intro h; cases h) (by with_reducible rfl)) ?_ | refine FitsSl.cons Fit1.nil_sl ?_ | refine FitsSl.cons (Fit1.hs rfl) ?_ | refine FitsSl.cons (Fit1.hp rfl rfl) ?_ | refine FitsSl.cons (Fit1.sl rfl) ?_ | refine FitsSl.cons (Fit1.ptr rfl rfl) ?_ | refine FitsSl.cons Fit1.raw ?_)
          (intro i hi; intro K hK; (conv=>whnf); refine hK _ _ ?_; clear hK K)
          by_cases hlt : i < l.length
          · have hx : l[i]? = some l[i] := List.getElem?_eq_getElem hlt
            obtain ⟨pA, pcap, A, cap, hA, c0, c1, c2, c3, c4, c5, c6, c7⟩ := hu.get hx
            have hmem := List.mem_of_getElem? hx
            have hnx := Po.sizeL_take hlt
            have hle := Po.sizeL_take_le (l := l) (k := i)
            have hle2 := Po.sizeL_take_le (l := l) (k := i + 1)
            have hAo := hA.l.ok
            have hAp := hA.p.ok
            have c := ih _ hmem _ _ hA
            clear ih
            generalize l[i] = y at *
            generalize Po.size y = sx at *
            generalize Po.sizeL (l.take i) = si at *
            obtain ⟨yk, ⟨ypk, ypf, ypv, ypl⟩, yf, yv, yl⟩ := y
            simp only [Po.cs, Po.T.k, Po.T.p, Po.T.f, Po.T.v, Po.T.l, Pd.T.k, Pd.T.f, Pd.T.v, Pd.T.l] at c c0 c1 c2 c3 c4 c5 c6 c7 hAo hAp
            repeat' first|(intro K hK;(with_reducible refine gC ?_);refine cS [0] c ?_)|(refine sxZ ?_;try clear hK K)|refine sxW ?_ ?_<;>intro _|(intro K hK _;(conv=>whnf))
            refine st_round (i + 1) hlt (by omega) ?_ (MemFits.eq rfl)
            repeat (first | exact FitsSl.nil | refine FitsSl.any ?_ | refine FitsSl.cons (Fit1.int (by  omega)) ?_ | refine FitsSl.cons (Fit1.int (by first | rfl | omega)) ?_ | refine FitsSl.cons (Fit1.bool rfl) ?_ | refine FitsSl.cons (Fit1.str rfl) ?_ | refine FitsSl.cons (Fit1.same (by intro h; cases h) (by with_reducible rfl)) ?_ | refine FitsSl.cons Fit1.nil_sl ?_ | refine FitsSl.cons (Fit1.hs rfl) ?_ | refine FitsSl.cons (Fit1.hp rfl rfl) ?_ | refine FitsSl.cons (Fit1.sl rfl) ?_ | refine FitsSl.cons (Fit1.ptr rfl rfl) ?_ | refine FitsSl.cons Fit1.raw ?_)
          · have hkl : i = l.length := by omega
            subst hkl
            have hle := Po.sizeL_take_le (l := l) (k := l.length)
            rw [List.take_length] at *
            clear ih
            repeat' first|(refine sxZ ?_;try clear hK K)|refine sxW ?_ ?_<;>intro _|(intro K hK _;(conv=>whnf))
            all_goals exact ⟨rfl, MemFits.pre 1 rfl⟩
    · rw [if_neg hk]
      obtain ⟨pk, pf, pv, pl⟩ := p
      simp only [pd_cs, Pd.T.k, Pd.T.f, Pd.T.v, Pd.T.l] at *
      by_cases hk2 : k < 2
      · repeat' first|(intro K hK;(with_reducible refine gC ?_);refine cS [0] cp ?_)|(refine sxZ ?_;try clear hK K)|refine sxW ?_ ?_<;>intro _|(intro K hK _;(conv=>whnf))
        refine st_auto (α := Nat) (fun i => i ≤ l.length) (fun i => [.keep, .keep, .keep, .set (.int .i64 (1 + z + Po.sizeL (l.take i) : Nat)), .set (.int .i64 i), .keep, .keep, .keep, .keep, .keep, .keep, .keep, .keep, .keep, .keep, .keep, .keep, .keep, .drop, .drop, .drop, .drop, .drop, .drop, .drop, .drop, .drop, .drop, .drop, .drop, .drop, .drop, .drop, .keep]) (fun _ => []) (fun i => l.length - i) 0 (Nat.zero_le _) ?_ (MemFits.eq rfl) ?_
        · repeat (first | exact FitsSl.nil | refine FitsSl.any ?_ | refine FitsSl.cons (Fit1.int (by  simp [Po.sizeL])) ?_ | refine FitsSl.cons (Fit1.int (by first | rfl | omega)) ?_ | refine FitsSl.cons (Fit1.bool rfl) ?_ | refine FitsSl.cons (Fit1.str rfl) ?_ | refine FitsSl.cons (Fit1.same (by intro h; cases h) (by with_reducible rfl)) ?_ | refine FitsSl.cons Fit1.nil_sl ?_ | refine FitsSl.cons (Fit1.hs rfl) ?_ | refine FitsSl.cons (Fit1.hp rfl rfl) ?_ | refine FitsSl.cons (Fit1.sl rfl) ?_ | refine FitsSl.cons (Fit1.ptr rfl rfl) ?_ | refine FitsSl.cons Fit1.raw ?_)
        (intro i hi; intro K hK; (conv=>whnf); refine hK _ _ ?_; clear hK K)
        by_cases hlt : i < l.length
        · have hx : l[i]? = some l[i] := List.getElem?_eq_getElem hlt
          obtain ⟨pA, pcap, A, cap, hA, c0, c1, c2, c3, c4, c5, c6, c7⟩ := hu.get hx
          have hmem := List.mem_of_getElem? hx
          have hnx := Po.sizeL_take hlt
          have hle := Po.sizeL_take_le (l := l) (k := i)
          have hle2 := Po.sizeL_take_le (l := l) (k := i + 1)
          have hAo := hA.l.ok
          have hAp := hA.p.ok
          have c := ih _ hmem _ _ hA
          clear ih
          generalize l[i] = y at *
          generalize Po.size y = sx at *
          generalize Po.sizeL (l.take i) = si at *
          obtain ⟨yk, ⟨ypk, ypf, ypv, ypl⟩, yf, yv, yl⟩ := y
          simp only [Po.cs, Po.T.k, Po.T.p, Po.T.f, Po.T.v, Po.T.l, Pd.T.k, Pd.T.f, Pd.T.v, Pd.T.l] at c c0 c1 c2 c3 c4 c5 c6 c7 hAo hAp
          repeat' first|(intro K hK;(with_reducible refine gC ?_);refine cS [0] c ?_)|(refine sxZ ?_;try clear hK K)|refine sxW ?_ ?_<;>intro _|(intro K hK _;(conv=>whnf))
          refine st_round (i + 1) hlt (by omega) ?_ (MemFits.eq rfl)
          repeat (first | exact FitsSl.nil | refine FitsSl.any ?_ | refine FitsSl.cons (Fit1.int (by  omega)) ?_ | refine FitsSl.cons (Fit1.int (by first | rfl | omega)) ?_ | refine FitsSl.cons (Fit1.bool rfl) ?_ | refine FitsSl.cons (Fit1.str rfl) ?_ | refine FitsSl.cons (Fit1.same (by intro h; cases h) (by with_reducible rfl)) ?_ | refine FitsSl.cons Fit1.nil_sl ?_ | refine FitsSl.cons (Fit1.hs rfl) ?_ | refine FitsSl.cons (Fit1.hp rfl rfl) ?_ | refine FitsSl.cons (Fit1.sl rfl) ?_ | refine FitsSl.cons (Fit1.ptr rfl rfl) ?_ | refine FitsSl.cons Fit1.raw ?_)
        · have hkl : i = l.length := by omega
          subst hkl
          have hle := Po.sizeL_take_le (l := l) (k := l.length)
          rw [List.take_length] at *
          clear ih
          repeat' first|(refine sxZ ?_;try clear hK K)|refine sxW ?_ ?_<;>intro _|(intro K hK _;(conv=>whnf))
          all_goals exact ⟨rfl, MemFits.pre 1 rfl⟩
      · have hk4 : 4 < k := by omega
        repeat' first|(intro K hK;(with_reducible refine gC ?_);refine cS [0] cp ?_)|(refine sxZ ?_;try clear hK K)|refine sxW ?_ ?_<;>intro _|(intro K hK _;(conv=>whnf))
        refine st_auto (α := Nat) (fun i => i ≤ l.length) (fun i => [.keep, .keep, .keep, .set (.int .i64 (1 + z + Po.sizeL (l.take i) : Nat)), .set (.int .i64 i), .keep, .keep, .keep, .keep, .keep, .keep, .keep, .keep, .keep, .keep, .keep, .keep, .keep, .drop, .drop, .drop, .drop, .drop, .drop, .drop, .drop, .drop, .drop, .drop, .drop, .drop, .drop, .drop, .keep]) (fun _ => []) (fun i => l.length - i) 0 (Nat.zero_le _) ?_ (MemFits.eq rfl) ?_
        · repeat (first | exact FitsSl.nil | refine FitsSl.any ?_ | refine FitsSl.cons (Fit1.int (by  simp [Po.sizeL])) ?_ | refine FitsSl.cons (Fit1.int (by first | rfl | omega)) ?_ | refine FitsSl.cons (Fit1.bool rfl) ?_ | refine FitsSl.cons (Fit1.str rfl) ?_ | refine FitsSl.cons (Fit1.same (by intro h; cases h) (by with_reducible rfl)) ?_ | refine FitsSl.cons Fit1.nil_sl ?_ | refine FitsSl.cons (Fit1.hs rfl) ?_ | refine FitsSl.cons (Fit1.hp rfl rfl) ?_ | refine FitsSl.cons (Fit1.sl rfl) ?_ | refine FitsSl.cons (Fit1.ptr rfl rfl) ?_ | refine FitsSl.cons Fit1.raw ?_)
        (intro i hi; intro K hK; (conv=>whnf); refine hK _ _ ?_; clear hK K)
        by_cases hlt : i < l.length
        · have hx : l[i]? = some l[i] := List.getElem?_eq_getElem hlt
          obtain ⟨pA, pcap, A, cap, hA, c0, c1, c2, c3, c4, c5, c6, c7⟩ := hu.get hx
          have hmem := List.mem_of_getElem? hx
          have hnx := Po.sizeL_take hlt
          have hle := Po.sizeL_take_le (l := l) (k := i)
          have hle2 := Po.sizeL_take_le (l := l) (k := i + 1)
          have hAo := hA.l.ok
          have hAp := hA.p.ok
          have c := ih _ hmem _ _ hA
          clear ih
          generalize l[i] = y at *
          generalize Po.size y = sx at *
          generalize Po.sizeL (l.take i) = si at *
          obtain ⟨yk, ⟨ypk, ypf, ypv, ypl⟩, yf, yv, yl⟩ := y
          simp only [Po.cs, Po.T.k, Po.T.p, Po.T.f, Po.T.v, Po.T.l, Pd.T.k, Pd.T.f, Pd.T.v, Pd.T.l] at c c0 c1 c2 c3 c4 c5 c6 c7 hAo hAp
          repeat' first|(intro K hK;(with_reducible refine gC ?_);refine cS [0] c ?_)|(refine sxZ ?_;try clear hK K)|refine sxW ?_ ?_<;>intro _|(intro K hK _;(conv=>whnf))
          refine st_round (i + 1) hlt (by omega) ?_ (MemFits.eq rfl)
          repeat (first | exact FitsSl.nil | refine FitsSl.any ?_ | refine FitsSl.cons (Fit1.int (by  omega)) ?_ | refine FitsSl.cons (Fit1.int (by first | rfl | omega)) ?_ | refine FitsSl.cons (Fit1.bool rfl) ?_ | refine FitsSl.cons (Fit1.str rfl) ?_ | refine FitsSl.cons (Fit1.same (by intro h; cases h) (by with_reducible rfl)) ?_ | refine FitsSl.cons Fit1.nil_sl ?_ | refine FitsSl.cons (Fit1.hs rfl) ?_ | refine FitsSl.cons (Fit1.hp rfl rfl) ?_ | refine FitsSl.cons (Fit1.sl rfl) ?_ | refine FitsSl.cons (Fit1.ptr rfl rfl) ?_ | refine FitsSl.cons Fit1.raw ?_)
        · have hkl : i = l.length := by omega
          subst hkl
          have hle := Po.sizeL_take_le (l := l) (k := l.length)
          rw [List.take_length] at *
          clear ih
          repeat' first|(refine sxZ ?_;try clear hK K)|refine sxW ?_ ?_<;>intro _|(intro K hK _;(conv=>whnf))
          all_goals exact ⟨rfl, MemFits.pre 1 rfl⟩
theorem refdeep27_c : ∀ (n : Nat) (x : Po.T) (pu u : Value), Po.tot x ≤ n → Po.tot x ≤ 4611686018427387904 → Po.At F x pu u →
    NCall Tryz.prog 19 [.agg (Po.cs x pu u)] [hpB F] fun r m => r = .int .i64 (Po.deep x : Nat) ∧ m = [hpB F]
  | 0, x, pu, u, hn, _, _ => absurd (Po.tot_pos x) (by omega)
  | n + 1, ⟨k, p, f, v, l⟩, pu, u, hn, hs, hx => by
    refine NCall.fits (K := fun r m => r = .int .i64 (Po.deep (.mk k p f v l) : Nat) ∧ MemFits m [hpB F]) ?_ fun r m' h => ⟨r, _, rfl, h.2, h.1, rfl⟩
    have hu : Po.Row F u l := hx.l
    have hpu : Pd.Row F pu p.l := hx.p
    have hok := hu.ok
    have hpok := hpu.ok
    have e := Po.tot_mk k p f v l
    have hll := Po.length_le l
    have ih : ∀ y ∈ l, ∀ pw w, Po.At F y pw w → _ := fun y hy pw w hw => refdeep27_c n y pw w (by have := Po.tot_lt (k := k) (q := p) (f := f) (v := v) hy; omega) (by have := Po.tot_lt (k := k) (q := p) (f := f) (v := v) hy; omega) hw
    have hd : Po.deep (.mk k p f v l) = 1 + Po.deepL l := by rw [Po.deep]
    rw [hd]
    refine ncall_of Tryz.func19 rfl (by decide) ?_
    rw [po_cs]
    repeat' first|(refine sxZ ?_;try clear hK K)|refine sxW ?_ ?_<;>intro _|(intro K hK _;(conv=>whnf))
    refine st_auto (α := Nat) (fun i => i ≤ l.length) (fun i => [.keep, .keep, .keep, .set (.int .i64 (1 + Po.deepL (l.take i) : Nat)), .set (.int .i64 i), .drop, .drop, .drop, .drop, .drop, .drop, .drop, .drop, .drop, .drop, .drop, .drop, .drop, .drop, .drop, .drop, .drop, .drop, .drop, .drop, .drop, .drop, .keep]) (fun _ => []) (fun i => l.length - i) 0 (Nat.zero_le _) ?_ (MemFits.eq rfl) ?_
    · repeat (first | exact FitsSl.nil | refine FitsSl.any ?_ | refine FitsSl.cons (Fit1.int (by  simp [Po.deepL])) ?_ | refine FitsSl.cons (Fit1.int (by first | rfl | omega)) ?_ | refine FitsSl.cons (Fit1.bool rfl) ?_ | refine FitsSl.cons (Fit1.str rfl) ?_ | refine FitsSl.cons (Fit1.same (by intro h; cases h) (by with_reducible rfl)) ?_ | refine FitsSl.cons Fit1.nil_sl ?_ | refine FitsSl.cons (Fit1.hs rfl) ?_ | refine FitsSl.cons (Fit1.hp rfl rfl) ?_ | refine FitsSl.cons (Fit1.sl rfl) ?_ | refine FitsSl.cons (Fit1.ptr rfl rfl) ?_ | refine FitsSl.cons Fit1.raw ?_)
    (intro i hi; intro K hK; (conv=>whnf); refine hK _ _ ?_; clear hK K)
    by_cases hlt : i < l.length
    · have hx : l[i]? = some l[i] := List.getElem?_eq_getElem hlt
      obtain ⟨pA, pcap, A, cap, hA, c0, c1, c2, c3, c4, c5, c6, c7⟩ := hu.get hx
      have hmem := List.mem_of_getElem? hx
      have hnx := Po.deepL_take hlt
      have hle := Po.deepL_take_le (l := l) (k := i)
      have hle2 := Po.deepL_take_le (l := l) (k := i + 1)
      have hAo := hA.l.ok
      have hAp := hA.p.ok
      have c := ih _ hmem _ _ hA
      clear ih
      generalize l[i] = y at *
      generalize Po.deep y = sx at *
      generalize Po.deepL (l.take i) = si at *
      obtain ⟨yk, ⟨ypk, ypf, ypv, ypl⟩, yf, yv, yl⟩ := y
      simp only [Po.cs, Po.T.k, Po.T.p, Po.T.f, Po.T.v, Po.T.l, Pd.T.k, Pd.T.f, Pd.T.v, Pd.T.l] at c c0 c1 c2 c3 c4 c5 c6 c7 hAo hAp
      repeat' first|(intro K hK;(with_reducible refine gC ?_);refine cS [0] c ?_)|(refine sxZ ?_;try clear hK K)|refine sxW ?_ ?_<;>intro _|(intro K hK _;(conv=>whnf))
      all_goals refine st_round (i + 1) hlt (by omega) ?_ (MemFits.eq rfl)
      all_goals repeat (first | exact FitsSl.nil | refine FitsSl.any ?_ | refine FitsSl.cons (Fit1.int (by  omega)) ?_ | refine FitsSl.cons (Fit1.int (by first | rfl | omega)) ?_ | refine FitsSl.cons (Fit1.bool rfl) ?_ | refine FitsSl.cons (Fit1.str rfl) ?_ | refine FitsSl.cons (Fit1.same (by intro h; cases h) (by with_reducible rfl)) ?_ | refine FitsSl.cons Fit1.nil_sl ?_ | refine FitsSl.cons (Fit1.hs rfl) ?_ | refine FitsSl.cons (Fit1.hp rfl rfl) ?_ | refine FitsSl.cons (Fit1.sl rfl) ?_ | refine FitsSl.cons (Fit1.ptr rfl rfl) ?_ | refine FitsSl.cons Fit1.raw ?_)
    · have hkl : i = l.length := by omega
      subst hkl
      have hle := Po.deepL_take_le (l := l) (k := l.length)
      rw [List.take_length] at *
      clear ih
      repeat' first|(refine sxZ ?_;try clear hK K)|refine sxW ?_ ?_<;>intro _|(intro K hK _;(conv=>whnf))
      all_goals exact ⟨rfl, MemFits.pre 1 rfl⟩
theorem wide27_c : ∀ (n : Nat) (x : Po.T) (pu u : Value), Po.tot x ≤ n → Po.tot x ≤ 4611686018427387904 → Po.At F x pu u →
    NCall Tryz.prog 20 [.agg (Po.cs x pu u)] [hpB F] fun r m => r = .int .i64 (Po.wide x : Nat) ∧ m = [hpB F]
  | 0, x, pu, u, hn, _, _ => absurd (Po.tot_pos x) (by omega)
  | n + 1, ⟨k, p, f, v, l⟩, pu, u, hn, hs, hx => by
    refine NCall.fits (K := fun r m => r = .int .i64 (Po.wide (.mk k p f v l) : Nat) ∧ MemFits m [hpB F]) ?_ fun r m' h => ⟨r, _, rfl, h.2, h.1, rfl⟩
    have hu : Po.Row F u l := hx.l
    have hpu : Pd.Row F pu p.l := hx.p
    have hok := hu.ok
    have hpok := hpu.ok
    have e := Po.tot_mk k p f v l
    have hll := Po.length_le l
    have ih : ∀ y ∈ l, ∀ pw w, Po.At F y pw w → _ := fun y hy pw w hw => wide27_c n y pw w (by have := Po.tot_lt (k := k) (q := p) (f := f) (v := v) hy; omega) (by have := Po.tot_lt (k := k) (q := p) (f := f) (v := v) hy; omega) hw
    refine ncall_of Tryz.func20 rfl (by decide) ?_
    rw [po_cs]
    by_cases h3 : k = 3
    · subst h3
      rw [show Po.wide (.mk 3 p f v l) = Po.wideS 1 l by rw [Po.wide]; rfl]
      repeat' first|(refine sxZ ?_;try clear hK K)|refine sxW ?_ ?_<;>intro _|(intro K hK _;(conv=>whnf))
      refine st_auto (α := Nat) (fun i => i ≤ l.length) (fun i => [.keep, .keep, .keep, .set (.int .i64 (Po.wideS 1 (l.take i) : Nat)), .keep, .drop, .keep, .keep, .keep, .keep, .keep, .keep, .keep, .keep, .keep, .keep, .keep, .set (.int .i64 i), .drop, .drop, .drop, .drop, .drop, .drop, .drop, .drop, .drop, .keep, .keep, .keep, .keep, .keep, .keep, .keep, .keep, .keep, .keep, .keep, .keep, .keep, .keep, .keep, .keep, .keep, .keep, .keep, .keep, .keep, .keep, .keep, .keep, .keep, .keep, .keep, .keep, .keep, .keep]) (fun _ => []) (fun i => l.length - i) 0 (Nat.zero_le _) ?_ (MemFits.eq rfl) ?_
      · repeat (first | exact FitsSl.nil | refine FitsSl.any ?_ | refine FitsSl.cons (Fit1.int (by  simp [Po.wideS])) ?_ | refine FitsSl.cons (Fit1.int (by first | rfl | omega)) ?_ | refine FitsSl.cons (Fit1.bool rfl) ?_ | refine FitsSl.cons (Fit1.str rfl) ?_ | refine FitsSl.cons (Fit1.same (by intro h; cases h) (by with_reducible rfl)) ?_ | refine FitsSl.cons Fit1.nil_sl ?_ | refine FitsSl.cons (Fit1.hs rfl) ?_ | refine FitsSl.cons (Fit1.hp rfl rfl) ?_ | refine FitsSl.cons (Fit1.sl rfl) ?_ | refine FitsSl.cons (Fit1.ptr rfl rfl) ?_ | refine FitsSl.cons Fit1.raw ?_)
      (intro i hi; intro K hK; (conv=>whnf); refine hK _ _ ?_; clear hK K)
      by_cases hlt : i < l.length
      · have hx : l[i]? = some l[i] := List.getElem?_eq_getElem hlt
        obtain ⟨pA, pcap, A, cap, hA, c0, c1, c2, c3, c4, c5, c6, c7⟩ := hu.get hx
        have hmem := List.mem_of_getElem? hx
        have hnx := Po.wideS_take 1 hlt
        have hw := Po.wide_le l[i]
        have hle := Po.wideS_le (l.take i) 1 (by decide)
        have hmul : Po.wideS 1 (l.take i) * Po.wide l[i] ≤ 1000000 := Nat.le_trans (Nat.mul_le_mul hle hw) (by decide)
        have hAo := hA.l.ok
        have hAp := hA.p.ok
        have c := ih _ hmem _ _ hA
        clear ih
        generalize l[i] = y at *
        generalize Po.wide y = sx at *
        generalize Po.wideS 1 (l.take i) = si at *
        have hcast : ((si * sx : Nat) : Int) = (si : Int) * sx := Int.natCast_mul _ _
        generalize hpr : (si : Int) * sx = pr at *
        generalize hpn : si * sx = pn at *
        obtain ⟨yk, ⟨ypk, ypf, ypv, ypl⟩, yf, yv, yl⟩ := y
        simp only [Po.cs, Po.T.k, Po.T.p, Po.T.f, Po.T.v, Po.T.l, Pd.T.k, Pd.T.f, Pd.T.v, Pd.T.l] at c c0 c1 c2 c3 c4 c5 c6 c7 hAo hAp
        repeat' first|(intro K hK;(with_reducible refine gC ?_);refine cS [0] c ?_)|(refine sxZ ?_;try clear hK K)|refine sxW ?_ ?_<;>intro _|(intro K hK _;(conv=>whnf))
        refine st_round (i + 1) hlt (by omega) ?_ (MemFits.pre 2 rfl)
        repeat (first | exact FitsSl.nil | refine FitsSl.any ?_ | refine FitsSl.cons (Fit1.int (by  (rw [hnx]; omega))) ?_ | refine FitsSl.cons (Fit1.int (by first | rfl | omega)) ?_ | refine FitsSl.cons (Fit1.bool rfl) ?_ | refine FitsSl.cons (Fit1.str rfl) ?_ | refine FitsSl.cons (Fit1.same (by intro h; cases h) (by with_reducible rfl)) ?_ | refine FitsSl.cons Fit1.nil_sl ?_ | refine FitsSl.cons (Fit1.hs rfl) ?_ | refine FitsSl.cons (Fit1.hp rfl rfl) ?_ | refine FitsSl.cons (Fit1.sl rfl) ?_ | refine FitsSl.cons (Fit1.ptr rfl rfl) ?_ | refine FitsSl.cons Fit1.raw ?_)
      · have hkl : i = l.length := by omega
        subst hkl
        rw [List.take_length] at *
        clear ih
        repeat' first|(refine sxZ ?_;try clear hK K)|refine sxW ?_ ?_<;>intro _|(intro K hK _;(conv=>whnf))
        all_goals exact ⟨rfl, MemFits.pre 1 rfl⟩
    by_cases h4 : k = 4
    · subst h4
      rw [show Po.wide (.mk 4 p f v l) = Po.wideU 0 l by rw [Po.wide]; rfl]
      repeat' first|(refine sxZ ?_;try clear hK K)|refine sxW ?_ ?_<;>intro _|(intro K hK _;(conv=>whnf))
      refine st_auto (α := Nat) (fun i => i ≤ l.length) (fun i => [.keep, .keep, .keep, .set (.int .i64 (Po.wideU 0 (l.take i) : Nat)), .keep, .keep, .keep, .drop, .keep, .keep, .keep, .keep, .keep, .keep, .keep, .keep, .keep, .keep, .keep, .keep, .keep, .keep, .keep, .keep, .keep, .keep, .keep, .keep, .keep, .keep, .keep, .keep, .set (.int .i64 i), .drop, .drop, .drop, .drop, .drop, .drop, .drop, .drop, .drop, .keep, .keep, .keep, .keep, .keep, .keep, .keep, .keep, .keep, .keep, .keep, .keep, .keep, .keep, .keep]) (fun _ => []) (fun i => l.length - i) 0 (Nat.zero_le _) ?_ (MemFits.eq rfl) ?_
      · repeat (first | exact FitsSl.nil | refine FitsSl.any ?_ | refine FitsSl.cons (Fit1.int (by  simp [Po.wideU])) ?_ | refine FitsSl.cons (Fit1.int (by first | rfl | omega)) ?_ | refine FitsSl.cons (Fit1.bool rfl) ?_ | refine FitsSl.cons (Fit1.str rfl) ?_ | refine FitsSl.cons (Fit1.same (by intro h; cases h) (by with_reducible rfl)) ?_ | refine FitsSl.cons Fit1.nil_sl ?_ | refine FitsSl.cons (Fit1.hs rfl) ?_ | refine FitsSl.cons (Fit1.hp rfl rfl) ?_ | refine FitsSl.cons (Fit1.sl rfl) ?_ | refine FitsSl.cons (Fit1.ptr rfl rfl) ?_ | refine FitsSl.cons Fit1.raw ?_)
      (intro i hi; intro K hK; (conv=>whnf); refine hK _ _ ?_; clear hK K)
      by_cases hlt : i < l.length
      · have hx : l[i]? = some l[i] := List.getElem?_eq_getElem hlt
        obtain ⟨pA, pcap, A, cap, hA, c0, c1, c2, c3, c4, c5, c6, c7⟩ := hu.get hx
        have hmem := List.mem_of_getElem? hx
        have hnx := Po.wideU_take 0 hlt
        have hw := Po.wide_le l[i]
        have hle := Po.wideU_le (l.take i) 0 (by decide)
        have hAo := hA.l.ok
        have hAp := hA.p.ok
        have c := ih _ hmem _ _ hA
        clear ih
        generalize l[i] = y at *
        generalize Po.wide y = sx at *
        generalize Po.wideU 0 (l.take i) = si at *
        obtain ⟨yk, ⟨ypk, ypf, ypv, ypl⟩, yf, yv, yl⟩ := y
        simp only [Po.cs, Po.T.k, Po.T.p, Po.T.f, Po.T.v, Po.T.l, Pd.T.k, Pd.T.f, Pd.T.v, Pd.T.l] at c c0 c1 c2 c3 c4 c5 c6 c7 hAo hAp
        repeat' first|(intro K hK;(with_reducible refine gC ?_);refine cS [0] c ?_)|(refine sxZ ?_;try clear hK K)|refine sxW ?_ ?_<;>intro _|(intro K hK _;(conv=>whnf))
        refine st_round (i + 1) hlt (by omega) ?_ (MemFits.pre 2 rfl)
        repeat (first | exact FitsSl.nil | refine FitsSl.any ?_ | refine FitsSl.cons (Fit1.int (by  (rw [hnx]; omega))) ?_ | refine FitsSl.cons (Fit1.int (by first | rfl | omega)) ?_ | refine FitsSl.cons (Fit1.bool rfl) ?_ | refine FitsSl.cons (Fit1.str rfl) ?_ | refine FitsSl.cons (Fit1.same (by intro h; cases h) (by with_reducible rfl)) ?_ | refine FitsSl.cons Fit1.nil_sl ?_ | refine FitsSl.cons (Fit1.hs rfl) ?_ | refine FitsSl.cons (Fit1.hp rfl rfl) ?_ | refine FitsSl.cons (Fit1.sl rfl) ?_ | refine FitsSl.cons (Fit1.ptr rfl rfl) ?_ | refine FitsSl.cons Fit1.raw ?_)
      · have hkl : i = l.length := by omega
        subst hkl
        rw [List.take_length] at *
        clear ih
        repeat' first|(refine sxZ ?_;try clear hK K)|refine sxW ?_ ?_<;>intro _|(intro K hK _;(conv=>whnf))
        all_goals exact ⟨rfl, MemFits.pre 1 rfl⟩
    by_cases h5 : k = 5
    · subst h5
      rw [show Po.wide (.mk 5 p f v l) = Po.wideI 0 l by rw [Po.wide]; rfl]
      repeat' first|(refine sxZ ?_;try clear hK K)|refine sxW ?_ ?_<;>intro _|(intro K hK _;(conv=>whnf))
      refine st_auto (α := Nat) (fun i => i ≤ l.length) (fun i => [.keep, .keep, .keep, .set (.int .i64 (Po.wideI 0 (l.take i) : Nat)), .keep, .keep, .keep, .keep, .keep, .drop, .keep, .keep, .keep, .keep, .keep, .keep, .keep, .keep, .keep, .keep, .keep, .keep, .keep, .keep, .keep, .keep, .keep, .keep, .keep, .keep, .keep, .keep, .keep, .keep, .keep, .keep, .keep, .keep, .keep, .keep, .keep, .keep, .keep, .keep, .keep, .keep, .keep, .set (.int .i64 i), .drop, .drop, .drop, .drop, .drop, .drop, .drop, .drop, .keep]) (fun _ => []) (fun i => l.length - i) 0 (Nat.zero_le _) ?_ (MemFits.eq rfl) ?_
      · repeat (first | exact FitsSl.nil | refine FitsSl.any ?_ | refine FitsSl.cons (Fit1.int (by  simp [Po.wideI])) ?_ | refine FitsSl.cons (Fit1.int (by first | rfl | omega)) ?_ | refine FitsSl.cons (Fit1.bool rfl) ?_ | refine FitsSl.cons (Fit1.str rfl) ?_ | refine FitsSl.cons (Fit1.same (by intro h; cases h) (by with_reducible rfl)) ?_ | refine FitsSl.cons Fit1.nil_sl ?_ | refine FitsSl.cons (Fit1.hs rfl) ?_ | refine FitsSl.cons (Fit1.hp rfl rfl) ?_ | refine FitsSl.cons (Fit1.sl rfl) ?_ | refine FitsSl.cons (Fit1.ptr rfl rfl) ?_ | refine FitsSl.cons Fit1.raw ?_)
      (intro i hi; intro K hK; (conv=>whnf); refine hK _ _ ?_; clear hK K)
      by_cases hlt : i < l.length
      · have hx : l[i]? = some l[i] := List.getElem?_eq_getElem hlt
        obtain ⟨pA, pcap, A, cap, hA, c0, c1, c2, c3, c4, c5, c6, c7⟩ := hu.get hx
        have hmem := List.mem_of_getElem? hx
        have hnx := Po.wideI_take 0 hlt
        have hw := Po.wide_le l[i]
        have hle := Po.wideI_le (l.take i) 0 (by decide)
        have hAo := hA.l.ok
        have hAp := hA.p.ok
        have c := ih _ hmem _ _ hA
        clear ih
        generalize l[i] = y at *
        generalize Po.wide y = sx at *
        generalize Po.wideI 0 (l.take i) = si at *
        obtain ⟨yk, ⟨ypk, ypf, ypv, ypl⟩, yf, yv, yl⟩ := y
        simp only [Po.cs, Po.T.k, Po.T.p, Po.T.f, Po.T.v, Po.T.l, Pd.T.k, Pd.T.f, Pd.T.v, Pd.T.l] at c c0 c1 c2 c3 c4 c5 c6 c7 hAo hAp
        repeat' first|(intro K hK;(with_reducible refine gC ?_);refine cS [0] c ?_)|(refine sxZ ?_;try clear hK K)|refine sxW ?_ ?_<;>intro _|(intro K hK _;(conv=>whnf))
        refine st_round (i + 1) hlt (by omega) ?_ (MemFits.pre 2 rfl)
        repeat (first | exact FitsSl.nil | refine FitsSl.any ?_ | refine FitsSl.cons (Fit1.int (by  (rw [hnx]; omega))) ?_ | refine FitsSl.cons (Fit1.int (by first | rfl | omega)) ?_ | refine FitsSl.cons (Fit1.bool rfl) ?_ | refine FitsSl.cons (Fit1.str rfl) ?_ | refine FitsSl.cons (Fit1.same (by intro h; cases h) (by with_reducible rfl)) ?_ | refine FitsSl.cons Fit1.nil_sl ?_ | refine FitsSl.cons (Fit1.hs rfl) ?_ | refine FitsSl.cons (Fit1.hp rfl rfl) ?_ | refine FitsSl.cons (Fit1.sl rfl) ?_ | refine FitsSl.cons (Fit1.ptr rfl rfl) ?_ | refine FitsSl.cons Fit1.raw ?_)
      · have hkl : i = l.length := by omega
        subst hkl
        rw [List.take_length] at *
        clear ih
        repeat' first|(refine sxZ ?_;try clear hK K)|refine sxW ?_ ?_<;>intro _|(intro K hK _;(conv=>whnf))
        all_goals exact ⟨rfl, MemFits.pre 1 rfl⟩
    rw [show Po.wide (.mk k p f v l) = 1 by rw [Po.wide, if_neg h3, if_neg h4, if_neg h5]]
    clear ih
    repeat' first|(refine sxZ ?_;try clear hK K)|refine sxW ?_ ?_<;>intro _|(intro K hK _;(conv=>whnf))
    all_goals first
      | exact ⟨rfl, MemFits.pre 1 rfl⟩
      | (exfalso; omega)
omit F in
theorem cut27_c (n : Int) : NCall Tryz.prog 41 [.int .i64 n] [] fun r _ => r = .int .i64 (min n 1000) := by
  refine ncall_of Tryz.func41 rfl (by decide) ?_
  by_cases h : 1000 < n
  · rw [show min n 1000 = 1000 by omega]
    repeat' first|(refine sxZ ?_;try clear hK K)|refine sxW ?_ ?_<;>intro _|(intro K hK _;(conv=>whnf))
    all_goals first | rfl | (exfalso; omega)
  · rw [show min n 1000 = n by omega]
    repeat' first|(refine sxZ ?_;try clear hK K)|refine sxW ?_ ?_<;>intro _|(intro K hK _;(conv=>whnf))
    all_goals first | rfl | (exfalso; omega)
theorem refwide27_c : ∀ (n : Nat) (x : Po.T) (pu u : Value), Po.tot x ≤ n → Po.tot x ≤ 4611686018427387904 → Po.At F x pu u →
    NCall Tryz.prog 21 [.agg (Po.cs x pu u)] [hpB F] fun r m => r = .int .i64 (Po.wide x : Nat) ∧ m = [hpB F]
  | 0, x, pu, u, hn, _, _ => absurd (Po.tot_pos x) (by omega)
  | n + 1, ⟨k, p, f, v, l⟩, pu, u, hn, hs, hx => by
    refine NCall.fits (K := fun r m => r = .int .i64 (Po.wide (.mk k p f v l) : Nat) ∧ MemFits m [hpB F]) ?_ fun r m' h => ⟨r, _, rfl, h.2, h.1, rfl⟩
    have hu : Po.Row F u l := hx.l
    have hpu : Pd.Row F pu p.l := hx.p
    have hok := hu.ok
    have hpok := hpu.ok
    have e := Po.tot_mk k p f v l
    have hll := Po.length_le l
    have ih : ∀ y ∈ l, ∀ pw w, Po.At F y pw w → _ := fun y hy pw w hw => refwide27_c n y pw w (by have := Po.tot_lt (k := k) (q := p) (f := f) (v := v) hy; omega) (by have := Po.tot_lt (k := k) (q := p) (f := f) (v := v) hy; omega) hw
    refine ncall_of Tryz.func21 rfl (by decide) ?_
    rw [po_cs]
    by_cases h3 : k = 3
    · subst h3
      rw [show Po.wide (.mk 3 p f v l) = Po.wideS 1 l by rw [Po.wide]; rfl]
      repeat' first|(refine sxZ ?_;try clear hK K)|refine sxW ?_ ?_<;>intro _|(intro K hK _;(conv=>whnf))
      refine st_auto (α := Nat) (fun i => i ≤ l.length) (fun i => [.keep, .keep, .keep, .set (.int .i64 (Po.wideS 1 (l.take i) : Nat)), .set (.int .i64 i), .drop, .keep, .keep, .keep, .keep, .keep, .keep, .keep, .keep, .keep, .keep, .keep, .drop, .drop, .drop, .drop, .drop, .drop, .drop, .drop, .drop, .drop, .drop, .drop, .drop, .drop, .drop, .drop, .drop, .drop, .drop, .drop, .drop, .drop, .drop, .drop, .drop, .drop, .drop, .drop, .drop, .drop, .drop, .drop, .drop, .drop, .drop, .drop, .keep]) (fun _ => []) (fun i => l.length - i) 0 (Nat.zero_le _) ?_ (MemFits.eq rfl) ?_
      · repeat (first | exact FitsSl.nil | refine FitsSl.any ?_ | refine FitsSl.cons (Fit1.int (by  simp [Po.wideS])) ?_ | refine FitsSl.cons (Fit1.int (by first | rfl | omega)) ?_ | refine FitsSl.cons (Fit1.bool rfl) ?_ | refine FitsSl.cons (Fit1.str rfl) ?_ | refine FitsSl.cons (Fit1.same (by intro h; cases h) (by with_reducible rfl)) ?_ | refine FitsSl.cons Fit1.nil_sl ?_ | refine FitsSl.cons (Fit1.hs rfl) ?_ | refine FitsSl.cons (Fit1.hp rfl rfl) ?_ | refine FitsSl.cons (Fit1.sl rfl) ?_ | refine FitsSl.cons (Fit1.ptr rfl rfl) ?_ | refine FitsSl.cons Fit1.raw ?_)
      (intro i hi; intro K hK; (conv=>whnf); refine hK _ _ ?_; clear hK K)
      by_cases hlt : i < l.length
      · have hx : l[i]? = some l[i] := List.getElem?_eq_getElem hlt
        obtain ⟨pA, pcap, A, cap, hA, c0, c1, c2, c3, c4, c5, c6, c7⟩ := hu.get hx
        have hmem := List.mem_of_getElem? hx
        have hnx := Po.wideS_take 1 hlt
        have hw := Po.wide_le l[i]
        have hle := Po.wideS_le (l.take i) 1 (by decide)
        have hmul : Po.wideS 1 (l.take i) * Po.wide l[i] ≤ 1000000 := Nat.le_trans (Nat.mul_le_mul hle hw) (by decide)
        have hAo := hA.l.ok
        have hAp := hA.p.ok
        have c := ih _ hmem _ _ hA
        clear ih
        generalize l[i] = y at *
        generalize Po.wide y = sx at *
        generalize Po.wideS 1 (l.take i) = si at *
        have hcast : ((si * sx : Nat) : Int) = (si : Int) * sx := Int.natCast_mul _ _
        generalize hpr : (si : Int) * sx = pr at *
        generalize hpn : si * sx = pn at *
        obtain ⟨yk, ⟨ypk, ypf, ypv, ypl⟩, yf, yv, yl⟩ := y
        simp only [Po.cs, Po.T.k, Po.T.p, Po.T.f, Po.T.v, Po.T.l, Pd.T.k, Pd.T.f, Pd.T.v, Pd.T.l] at c c0 c1 c2 c3 c4 c5 c6 c7 hAo hAp
        repeat' first|(intro K hK;(with_reducible refine gC ?_);first|refine cP (cut27_c _) ?_|refine cS [0] c ?_)|(refine sxZ ?_;try clear hK K)|refine sxW ?_ ?_<;>intro _|(intro K hK _;(conv=>whnf))
        all_goals refine st_round (i + 1) hlt (by omega) ?_ (MemFits.eq rfl)
        all_goals repeat (first | exact FitsSl.nil | refine FitsSl.any ?_ | refine FitsSl.cons (Fit1.int (by  (rw [hnx]; omega))) ?_ | refine FitsSl.cons (Fit1.int (by first | rfl | omega)) ?_ | refine FitsSl.cons (Fit1.bool rfl) ?_ | refine FitsSl.cons (Fit1.str rfl) ?_ | refine FitsSl.cons (Fit1.same (by intro h; cases h) (by with_reducible rfl)) ?_ | refine FitsSl.cons Fit1.nil_sl ?_ | refine FitsSl.cons (Fit1.hs rfl) ?_ | refine FitsSl.cons (Fit1.hp rfl rfl) ?_ | refine FitsSl.cons (Fit1.sl rfl) ?_ | refine FitsSl.cons (Fit1.ptr rfl rfl) ?_ | refine FitsSl.cons Fit1.raw ?_)
      · have hkl : i = l.length := by omega
        subst hkl
        rw [List.take_length] at *
        clear ih
        repeat' first|(refine sxZ ?_;try clear hK K)|refine sxW ?_ ?_<;>intro _|(intro K hK _;(conv=>whnf))
        all_goals exact ⟨rfl, MemFits.pre 1 rfl⟩
    by_cases h4 : k = 4
    · subst h4
      rw [show Po.wide (.mk 4 p f v l) = Po.wideU 0 l by rw [Po.wide]; rfl]
      repeat' first|(refine sxZ ?_;try clear hK K)|refine sxW ?_ ?_<;>intro _|(intro K hK _;(conv=>whnf))
      refine st_auto (α := Nat) (fun i => i ≤ l.length) (fun i => [.keep, .keep, .keep, .set (.int .i64 (Po.wideU 0 (l.take i) : Nat)), .set (.int .i64 i), .drop, .keep, .keep, .keep, .keep, .keep, .keep, .keep, .keep, .keep, .keep, .keep, .drop, .drop, .drop, .drop, .drop, .drop, .drop, .drop, .drop, .drop, .drop, .drop, .drop, .drop, .drop, .drop, .drop, .drop, .drop, .drop, .drop, .drop, .drop, .drop, .drop, .drop, .drop, .drop, .drop, .drop, .drop, .drop, .drop, .drop, .drop, .drop, .keep]) (fun _ => []) (fun i => l.length - i) 0 (Nat.zero_le _) ?_ (MemFits.eq rfl) ?_
      · repeat (first | exact FitsSl.nil | refine FitsSl.any ?_ | refine FitsSl.cons (Fit1.int (by  simp [Po.wideU])) ?_ | refine FitsSl.cons (Fit1.int (by first | rfl | omega)) ?_ | refine FitsSl.cons (Fit1.bool rfl) ?_ | refine FitsSl.cons (Fit1.str rfl) ?_ | refine FitsSl.cons (Fit1.same (by intro h; cases h) (by with_reducible rfl)) ?_ | refine FitsSl.cons Fit1.nil_sl ?_ | refine FitsSl.cons (Fit1.hs rfl) ?_ | refine FitsSl.cons (Fit1.hp rfl rfl) ?_ | refine FitsSl.cons (Fit1.sl rfl) ?_ | refine FitsSl.cons (Fit1.ptr rfl rfl) ?_ | refine FitsSl.cons Fit1.raw ?_)
      (intro i hi; intro K hK; (conv=>whnf); refine hK _ _ ?_; clear hK K)
      by_cases hlt : i < l.length
      · have hx : l[i]? = some l[i] := List.getElem?_eq_getElem hlt
        obtain ⟨pA, pcap, A, cap, hA, c0, c1, c2, c3, c4, c5, c6, c7⟩ := hu.get hx
        have hmem := List.mem_of_getElem? hx
        have hnx := Po.wideU_take 0 hlt
        have hw := Po.wide_le l[i]
        have hle := Po.wideU_le (l.take i) 0 (by decide)
        have hAo := hA.l.ok
        have hAp := hA.p.ok
        have c := ih _ hmem _ _ hA
        clear ih
        generalize l[i] = y at *
        generalize Po.wide y = sx at *
        generalize Po.wideU 0 (l.take i) = si at *
        obtain ⟨yk, ⟨ypk, ypf, ypv, ypl⟩, yf, yv, yl⟩ := y
        simp only [Po.cs, Po.T.k, Po.T.p, Po.T.f, Po.T.v, Po.T.l, Pd.T.k, Pd.T.f, Pd.T.v, Pd.T.l] at c c0 c1 c2 c3 c4 c5 c6 c7 hAo hAp
        repeat' first|(intro K hK;(with_reducible refine gC ?_);first|refine cP (cut27_c _) ?_|refine cS [0] c ?_)|(refine sxZ ?_;try clear hK K)|refine sxW ?_ ?_<;>intro _|(intro K hK _;(conv=>whnf))
        all_goals refine st_round (i + 1) hlt (by omega) ?_ (MemFits.eq rfl)
        all_goals repeat (first | exact FitsSl.nil | refine FitsSl.any ?_ | refine FitsSl.cons (Fit1.int (by  (rw [hnx]; omega))) ?_ | refine FitsSl.cons (Fit1.int (by first | rfl | omega)) ?_ | refine FitsSl.cons (Fit1.bool rfl) ?_ | refine FitsSl.cons (Fit1.str rfl) ?_ | refine FitsSl.cons (Fit1.same (by intro h; cases h) (by with_reducible rfl)) ?_ | refine FitsSl.cons Fit1.nil_sl ?_ | refine FitsSl.cons (Fit1.hs rfl) ?_ | refine FitsSl.cons (Fit1.hp rfl rfl) ?_ | refine FitsSl.cons (Fit1.sl rfl) ?_ | refine FitsSl.cons (Fit1.ptr rfl rfl) ?_ | refine FitsSl.cons Fit1.raw ?_)
      · have hkl : i = l.length := by omega
        subst hkl
        rw [List.take_length] at *
        clear ih
        repeat' first|(refine sxZ ?_;try clear hK K)|refine sxW ?_ ?_<;>intro _|(intro K hK _;(conv=>whnf))
        all_goals exact ⟨rfl, MemFits.pre 1 rfl⟩
    by_cases h5 : k = 5
    · subst h5
      rw [show Po.wide (.mk 5 p f v l) = Po.wideI 0 l by rw [Po.wide]; rfl]
      repeat' first|(refine sxZ ?_;try clear hK K)|refine sxW ?_ ?_<;>intro _|(intro K hK _;(conv=>whnf))
      refine st_auto (α := Nat) (fun i => i ≤ l.length) (fun i => [.keep, .keep, .keep, .set (.int .i64 (Po.wideI 0 (l.take i) : Nat)), .set (.int .i64 i), .drop, .keep, .keep, .keep, .keep, .keep, .keep, .keep, .keep, .keep, .keep, .keep, .drop, .drop, .drop, .drop, .drop, .drop, .drop, .drop, .drop, .drop, .drop, .drop, .drop, .drop, .drop, .drop, .drop, .drop, .drop, .drop, .drop, .drop, .drop, .drop, .drop, .drop, .drop, .drop, .drop, .drop, .drop, .drop, .drop, .drop, .drop, .drop, .keep]) (fun _ => []) (fun i => l.length - i) 0 (Nat.zero_le _) ?_ (MemFits.eq rfl) ?_
      · repeat (first | exact FitsSl.nil | refine FitsSl.any ?_ | refine FitsSl.cons (Fit1.int (by  simp [Po.wideI])) ?_ | refine FitsSl.cons (Fit1.int (by first | rfl | omega)) ?_ | refine FitsSl.cons (Fit1.bool rfl) ?_ | refine FitsSl.cons (Fit1.str rfl) ?_ | refine FitsSl.cons (Fit1.same (by intro h; cases h) (by with_reducible rfl)) ?_ | refine FitsSl.cons Fit1.nil_sl ?_ | refine FitsSl.cons (Fit1.hs rfl) ?_ | refine FitsSl.cons (Fit1.hp rfl rfl) ?_ | refine FitsSl.cons (Fit1.sl rfl) ?_ | refine FitsSl.cons (Fit1.ptr rfl rfl) ?_ | refine FitsSl.cons Fit1.raw ?_)
      (intro i hi; intro K hK; (conv=>whnf); refine hK _ _ ?_; clear hK K)
      by_cases hlt : i < l.length
      · have hx : l[i]? = some l[i] := List.getElem?_eq_getElem hlt
        obtain ⟨pA, pcap, A, cap, hA, c0, c1, c2, c3, c4, c5, c6, c7⟩ := hu.get hx
        have hmem := List.mem_of_getElem? hx
        have hnx := Po.wideI_take 0 hlt
        have hw := Po.wide_le l[i]
        have hle := Po.wideI_le (l.take i) 0 (by decide)
        have hAo := hA.l.ok
        have hAp := hA.p.ok
        have c := ih _ hmem _ _ hA
        clear ih
        generalize l[i] = y at *
        generalize Po.wide y = sx at *
        generalize Po.wideI 0 (l.take i) = si at *
        obtain ⟨yk, ⟨ypk, ypf, ypv, ypl⟩, yf, yv, yl⟩ := y
        simp only [Po.cs, Po.T.k, Po.T.p, Po.T.f, Po.T.v, Po.T.l, Pd.T.k, Pd.T.f, Pd.T.v, Pd.T.l] at c c0 c1 c2 c3 c4 c5 c6 c7 hAo hAp
        repeat' first|(intro K hK;(with_reducible refine gC ?_);refine cS [0] c ?_)|(refine sxZ ?_;try clear hK K)|refine sxW ?_ ?_<;>intro _|(intro K hK _;(conv=>whnf))
        all_goals refine st_round (i + 1) hlt (by omega) ?_ (MemFits.eq rfl)
        all_goals repeat (first | exact FitsSl.nil | refine FitsSl.any ?_ | refine FitsSl.cons (Fit1.int (by  (rw [hnx]; omega))) ?_ | refine FitsSl.cons (Fit1.int (by first | rfl | omega)) ?_ | refine FitsSl.cons (Fit1.bool rfl) ?_ | refine FitsSl.cons (Fit1.str rfl) ?_ | refine FitsSl.cons (Fit1.same (by intro h; cases h) (by with_reducible rfl)) ?_ | refine FitsSl.cons Fit1.nil_sl ?_ | refine FitsSl.cons (Fit1.hs rfl) ?_ | refine FitsSl.cons (Fit1.hp rfl rfl) ?_ | refine FitsSl.cons (Fit1.sl rfl) ?_ | refine FitsSl.cons (Fit1.ptr rfl rfl) ?_ | refine FitsSl.cons Fit1.raw ?_)
      · have hkl : i = l.length := by omega
        subst hkl
        rw [List.take_length] at *
        clear ih
        repeat' first|(refine sxZ ?_;try clear hK K)|refine sxW ?_ ?_<;>intro _|(intro K hK _;(conv=>whnf))
        all_goals exact ⟨rfl, MemFits.pre 1 rfl⟩
    rw [show Po.wide (.mk k p f v l) = 1 by rw [Po.wide, if_neg h3, if_neg h4, if_neg h5]]
    clear ih
    by_cases hk3 : k < 3
    iterate 2
      · repeat' first|(refine sxZ ?_;try clear hK K)|refine sxW ?_ ?_<;>intro _|(intro K hK _;(conv=>whnf))
        all_goals first
          | exact ⟨rfl, MemFits.pre 1 rfl⟩
          | (exfalso; omega)
end
end Go.Proofs.YtngodakgbldlpaaGreatDoor


