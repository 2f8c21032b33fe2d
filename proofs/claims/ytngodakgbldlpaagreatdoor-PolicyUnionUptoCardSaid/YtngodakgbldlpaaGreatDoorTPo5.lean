/-
  Policies: which may be, by the program.
-/
import Derived.Test.YtngodakgbldlpaaGreatDoorTPo4
namespace Go.Proofs.YtngodakgbldlpaaGreatDoor
open Go.Sx
set_option maxRecDepth 20000
set_option linter.unusedSimpArgs false
set_option linter.unusedVariables false
set_option maxHeartbeats 4000000
set_option linter.unusedVariables false
section
variable (F : Heap)
theorem index27_c (q : Po.T → Bool) (v : Value) (l : List Po.T) (hv : Po.Row F v l) (hn : l.length ≤ 4611686018427387904) (g : FuncId) (first captured : List AV)
    (hg : ∀ x ∈ l, ∀ pA A, Po.At F x pA A → NCall Tryz.prog g (first ++ [.agg (Po.cs x pA A)] ++ captured) [hpB F] fun r m => r = .bool (q x) ∧ m = [hpB F]) :
    NCall Tryz.prog 95 [.hs v l.length, .fn g first captured] [hpB F] fun r m => (∃ j : Int, r = .int .i64 j ∧ (0 ≤ j ↔ l.any q = true)) ∧ m = [hpB F] := by
  have hok := hv.ok
  refine ncall_of Tryz.func95 rfl (by decide) ?_
  repeat' first|(refine sxZ ?_;try clear hK K)|refine sxW ?_ ?_<;>intro _|(intro K hK _;(conv=>whnf))
  refine st_auto (α := Nat) (fun k => k ≤ l.length ∧ ∀ (j : Nat) (x : Po.T), j < k → l[j]? = some x → q x = false) (fun k => [.keep, .keep, .keep, .keep, .drop, .drop, .keep, .keep, .set (.int .i64 k), .drop, .drop, .drop, .drop, .drop, .drop, .drop, .drop, .drop, .drop]) (fun _ => []) (fun k => l.length - k) 0 ⟨Nat.zero_le _, fun j x hj => absurd hj (Nat.not_lt_zero _)⟩ ?_ (MemFits.eq rfl) ?_
  · exact fitsGo
  (intro k ⟨hk, hgone⟩; intro K hK; (conv=>whnf); refine hK _ _ ?_; clear hK K)
  by_cases hlt : k < l.length
  · have hx : l[k]? = some l[k] := List.getElem?_eq_getElem hlt
    obtain ⟨pA, pcap, A, cap, hA, c0, c1, c2, c3, c4, c5, c6, c7⟩ := hv.get hx
    have hAo := hA.l.ok
    have hAp := hA.p.ok
    have hmem := List.mem_of_getElem? hx
    have c := hg _ hmem _ _ hA
    generalize l[k] = x at *
    obtain ⟨yk, ⟨ypk, ypf, ypv, ypl⟩, yf, yv, yl⟩ := x
    simp only [Po.cs, Po.T.k, Po.T.p, Po.T.f, Po.T.v, Po.T.l, Pd.T.k, Pd.T.f, Pd.T.v, Pd.T.l] at c c0 c1 c2 c3 c4 c5 c6 c7 hAo hAp
    cases hq : q (.mk yk (.mk ypk ypf ypv ypl) yf yv yl) with
    | false =>
      rw [hq] at c
      repeat' first|(intro K hK;(with_reducible refine gC ?_);refine cS [0] c ?_)|(refine sxZ ?_;try clear hK K)|refine sxW ?_ ?_<;>intro _|(intro K hK _;(conv=>whnf))
      refine st_round (k + 1) ⟨hlt, fun j y hj hy => ?_⟩ (by omega) ?_ (MemFits.eq rfl)
      · by_cases e : j = k
        · subst e
          rw [hx] at hy
          injection hy with hy
          rw [← hy]; exact hq
        · exact hgone j y (by omega) hy
      · exact fitsGo
    | true =>
      rw [hq] at c
      repeat' first|(intro K hK;(with_reducible refine gC ?_);refine cS [0] c ?_)|(refine sxZ ?_;try clear hK K)|refine sxW ?_ ?_<;>intro _|(intro K hK _;(conv=>whnf))
      exact ⟨⟨_, rfl, ⟨fun _ => List.any_eq_true.2 ⟨_, hmem, hq⟩, fun _ => by omega⟩⟩, rfl⟩
  · have hno : ¬ l.any q = true := fun h => by
      obtain ⟨x, hx, hq⟩ := List.any_eq_true.1 h
      obtain ⟨j, hj, e⟩ := List.getElem_of_mem hx
      have := hgone j x (by omega) (by rw [← e]; exact List.getElem?_eq_getElem hj)
      rw [this] at hq
      cases hq
    repeat' first|(refine sxZ ?_;try clear hK K)|refine sxW ?_ ?_<;>intro _|(intro K hK _;(conv=>whnf))
    exact ⟨⟨_, rfl, ⟨fun h => by omega, fun h => (hno h).elim⟩⟩, rfl⟩
theorem contains27_c (q : Po.T → Bool) (v : Value) (l : List Po.T) (hv : Po.Row F v l) (hn : l.length ≤ 4611686018427387904) (g : FuncId) (first captured : List AV)
    (hg : ∀ x ∈ l, ∀ pA A, Po.At F x pA A → NCall Tryz.prog g (first ++ [.agg (Po.cs x pA A)] ++ captured) [hpB F] fun r m => r = .bool (q x) ∧ m = [hpB F]) :
    NCall Tryz.prog 71 [.hs v l.length, .fn g first captured] [hpB F] fun r m => r = .bool (l.any q) ∧ m = [hpB F] := by
  have hi := index27_c F q v l hv hn g first captured hg
  refine ncall_of Tryz.func71 rfl (by decide) ?_
  repeat' first|(intro K hK;(with_reducible refine gC ?_);(refine cN [0] hi ?_;rintro _ _ ⟨⟨j, rfl, hj⟩, rfl⟩;refine cR ?_))|(refine sxZ ?_;try clear hK K)|refine sxW ?_ ?_<;>intro _|(intro K hK _;(conv=>whnf))
  all_goals
    refine ⟨?_, rfl⟩
    congr 1
    by_cases h : 0 ≤ j
    · rw [hj.1 h]; exact decide_eq_true h
    · rw [show l.any q = false by cases e : l.any q with | false => rfl | true => exact (h (hj.2 e)).elim]; exact decide_eq_false h
theorem all27_c : ∀ (n : Nat) (x : Po.T) (pu u : Value), Po.tot x ≤ n → Po.tot x ≤ 4611686018427387904 → Po.At F x pu u →
    NCall Tryz.prog 39 [.agg (Po.cs x pu u)] [hpB F] fun r m => r = .bool (Po.fits x) ∧ m = [hpB F]
  | 0, x, pu, u, hn, _, _ => absurd (Po.tot_pos x) (by omega)
  | n + 1, ⟨k, p, f, v, l⟩, pu, u, hn, hs, hx => by
    refine NCall.fits (K := fun r m => r = .bool (Po.fits (.mk k p f v l)) ∧ MemFits m [hpB F]) ?_ fun r m' h => ⟨r, _, rfl, h.2, h.1, rfl⟩
    have hu : Po.Row F u l := hx.l
    have hok := hu.ok
    have hpok : SlOk pu p.l.length := hx.p.ok
    have hll := Po.length_le l
    have e2 := Po.tot_mk k p f v l
    have ih : ∀ x ∈ l, ∀ pA A, Po.At F x pA A → NCall Tryz.prog 72 ([] ++ [.agg (Po.cs x pA A)] ++ []) [hpB F] fun r m => r = .bool (!Po.fits x) ∧ m = [hpB F] := fun x hx pA A hA => by
      have c := all27_c n x pA A (by have := Po.tot_lt (k := k) (q := p) (f := f) (v := v) hx; omega) (by have := Po.tot_lt (k := k) (q := p) (f := f) (v := v) hx; omega) hA
      refine NCall.fits (K := fun r m => r = .bool (!Po.fits x) ∧ MemFits m [hpB F]) ?_ fun r m' h => ⟨r, _, rfl, h.2, h.1, rfl⟩
      have hAo := hA.l.ok
      have hAp := hA.p.ok
      generalize Po.fits x = b at *
      simp only [Po.cs] at *
      refine ncall_of Tryz.func72 rfl (by decide) ?_
      repeat' first|(intro K hK;(with_reducible refine gC ?_);refine cS [0] c ?_)|(refine sxZ ?_;try clear hK K)|refine sxW ?_ ?_<;>intro _|(intro K hK _;(conv=>whnf))
      all_goals exact ⟨rfl, MemFits.pre 1 rfl⟩
    have cc := contains27_c F (fun x => !Po.fits x) u l hu (by omega) _ [] [] ih
    rw [Po.any_fits] at cc
    have cs := shape27_c F k p f v l pu u (by omega) (by omega) hx
    rw [Po.fits]
    generalize Po.shape k p f v l.length = sb at *
    generalize Po.fitsL l = fb at *
    rw [po_cs] at *
    clear ih hx
    refine ncall_of Tryz.func39 rfl (by decide) ?_
    cases sb
    · repeat' first|(intro K hK;(with_reducible refine gC ?_);refine cS [0] cs ?_)|(refine sxZ ?_;try clear hK K)|refine sxW ?_ ?_<;>intro _|(intro K hK _;(conv=>whnf))
      all_goals exact ⟨rfl, MemFits.pre 1 rfl⟩
    · repeat' first|(intro K hK;(with_reducible refine gC ?_);first|refine cS [0] cs ?_|refine cS [0] cc ?_)|(refine sxZ ?_;try clear hK K)|refine sxW ?_ ?_<;>intro _|(intro K hK _;(conv=>whnf))
      all_goals exact ⟨by cases fb <;> rfl, MemFits.pre 1 rfl⟩
theorem right27_c (x : Po.T) (pu u : Value) (hs : Po.tot x ≤ 4611686018427387904) (hx : Po.At F x pu u) : NCall Tryz.prog 15 [.agg (Po.cs x pu u)] [hpB F] fun r m => r = .bool (Po.right x) ∧ m = [hpB F] := by
  refine NCall.fits (K := fun r m => r = .bool (Po.right x) ∧ MemFits m [hpB F]) ?_ fun r m' h => ⟨r, _, rfl, h.2, h.1, rfl⟩
  have c1 := size27_c F _ x pu u (Nat.le_refl _) hs hx
  have c2 := deep27_c F _ x pu u (Nat.le_refl _) hs hx
  have c3 := wide27_c F _ x pu u (Nat.le_refl _) hs hx
  have c4 := all27_c F _ x pu u (Nat.le_refl _) hs hx
  have hd := Po.deep_tot x
  have hz := Po.size_tot x
  have hwd := Po.wide_le x
  have hok := hx.l.ok
  have hpok := hx.p.ok
  unfold Po.right
  generalize Po.fits x = fb at *
  generalize Po.size x = sz at *
  generalize Po.deep x = dp at *
  generalize Po.wide x = wd at *
  simp only [Po.cs] at *
  clear hx
  refine ncall_of Tryz.func15 rfl (by decide) ?_
  by_cases h1 : dp ≤ 8
  · by_cases h2 : sz ≤ 64
    · by_cases h3 : wd ≤ 64
      · repeat' first|(intro K hK;(with_reducible refine gC ?_);first|refine cS [0] c1 ?_|refine cS [0] c2 ?_|refine cS [0] c3 ?_|refine cS [0] c4 ?_)|(refine sxZ ?_;try clear hK K)|refine sxW ?_ ?_<;>intro _|(intro K hK _;(conv=>whnf))
        all_goals first
          | (exfalso; omega)
          | exact ⟨by simp [h1, h2, h3], MemFits.pre 1 rfl⟩
      · repeat' first|(intro K hK;(with_reducible refine gC ?_);first|refine cS [0] c1 ?_|refine cS [0] c2 ?_|refine cS [0] c3 ?_)|(refine sxZ ?_;try clear hK K)|refine sxW ?_ ?_<;>intro _|(intro K hK _;(conv=>whnf))
        all_goals first
          | (exfalso; omega)
          | exact ⟨by simp [h3], MemFits.pre 1 rfl⟩
    · repeat' first|(intro K hK;(with_reducible refine gC ?_);first|refine cS [0] c1 ?_|refine cS [0] c2 ?_)|(refine sxZ ?_;try clear hK K)|refine sxW ?_ ?_<;>intro _|(intro K hK _;(conv=>whnf))
      all_goals first
        | (exfalso; omega)
        | exact ⟨by simp [h2], MemFits.pre 1 rfl⟩
  · repeat' first|(intro K hK;(with_reducible refine gC ?_);refine cS [0] c2 ?_)|(refine sxZ ?_;try clear hK K)|refine sxW ?_ ?_<;>intro _|(intro K hK _;(conv=>whnf))
    all_goals first
      | (exfalso; omega)
      | exact ⟨by simp [h1], MemFits.pre 1 rfl⟩
end
end Go.Proofs.YtngodakgbldlpaaGreatDoor


