/-
  Policies: which may be, by the document. (Printed by gen_po6.py.)
-/
import Derived.Test.YtngodakgbldlpaaGreatDoorTPo6a
import Derived.Test.YtngodakgbldlpaaGreatDoorTPo6b
import Derived.Test.YtngodakgbldlpaaGreatDoorTPo6c
import Derived.Test.YtngodakgbldlpaaGreatDoorTPo6d
import Derived.Test.YtngodakgbldlpaaGreatDoorTPo6e
namespace Go.Proofs.YtngodakgbldlpaaGreatDoor
open Go.Sx
set_option maxRecDepth 20000
set_option linter.unusedSimpArgs false
set_option linter.unusedVariables false
set_option maxHeartbeats 4000000
set_option linter.unusedVariables false
section
variable (F : Heap)
theorem fits27_z (k : Int) (hk : ¬ (k = 1 ∨ k = 2 ∨ k = 3 ∨ k = 4 ∨ k = 5)) (pk pf pv : Int) (pl : List Pd.T) (f v : Int) (l : List Po.T) (pu u : Value) (tp : Int) (nb rb : Bool) (htp : Pd.top f = tp) (hnb : Pd.same (.mk pk pf pv pl) Po.noneP = nb) (hrb : Pd.right (.mk pk pf pv pl) = rb) (hu : Po.Row F u l) (hok : SlOk u l.length) (hpok : SlOk pu pl.length) (hln : l.length ≤ 4611686018427387904)
    (ih : ∀ x ∈ l, ∀ pA A, Po.At F x pA A → NCall Tryz.prog 30 [.agg (Po.cs x pA A)] [hpB F] fun r m => r = .bool (Po.fits x) ∧ m = [hpB F])
    (ct : NCall Tryz.prog 51 [.int .i64 f] [] fun r _ => r = .int .i64 tp)
    (cr : NCall Tryz.prog 7 [.agg [.int .i64 pk, .int .i64 pf, .int .i64 pv, .hs pu pl.length]] [hpB F] fun r m => r = .bool rb ∧ m = [hpB F])
    (cn : NCall Tryz.prog 44 [.agg [.int .i64 pk, .int .i64 pf, .int .i64 pv, .hs pu pl.length], .agg [.int .i64 0, .int .i64 0, .int .i64 0, .hs (.slice none 0 0) 0]] [hpB F] fun r m => r = .bool nb ∧ m = [hpB F]) :
    NCall Tryz.prog 30 [.agg [.int .i64 k, .int .i64 pk, .int .i64 pf, .int .i64 pv, .hs pu pl.length, .int .i64 f, .int .i64 v, .hs u l.length]] [hpB F] fun r m => r = .bool (Po.shape k (.mk pk pf pv pl) f v l.length && Po.fitsL l) ∧ MemFits m [hpB F] := by
  have hfl := Po.fitsL_iff l
  have hsh : Po.shape k (.mk pk pf pv pl) f v l.length = decide ((k : Int) = 1 ∧ rb = true ∧ (f = 0 ∧ v = 0) ∧ l.length = 0 ∨ (k : Int) = 2 ∧ nb = true ∧ (0 ≤ f ∧ f ≤ 4) ∧ (0 ≤ v ∧ v ≤ tp) ∧ l.length = 0 ∨ ((k : Int) = 3 ∨ (k : Int) = 4) ∧ nb = true ∧ (f = 0 ∧ v = 0) ∧ 2 ≤ l.length ∧ l.length ≤ 8 ∨ (k : Int) = 5 ∧ rb = true ∧ (f = 0 ∧ v = 0) ∧ l.length = 2) := by rw [← htp, ← hnb, ← hrb]; rfl
  clear htp hnb hrb
  refine ncall_of Tryz.func30 rfl (by decide) ?_
  rw [show Po.shape k (.mk pk pf pv pl) f v l.length = false by rw [hsh]; exact decide_eq_false (by omega)]
  clear hsh hfl ih
  rw [Bool.false_and]
  by_cases hk0 : k < 1
  iterate 2
    · repeat' first|(refine sxZK [] ?_;try clear hK K)|refine sxW ?_ ?_<;>intro _|refine sxVK ?_ ?_|(intro K hK _;(conv=>whnf))
      all_goals first
        | exact ⟨rfl, MemFits.pre 1 rfl⟩
        | (exfalso; omega)
theorem fits27_c : ∀ (n : Nat) (x : Po.T) (pu u : Value), Po.tot x ≤ n → Po.tot x ≤ 4611686018427387904 → Po.At F x pu u →
    NCall Tryz.prog 30 [.agg (Po.cs x pu u)] [hpB F] fun r m => r = .bool (Po.fits x) ∧ m = [hpB F]
  | 0, x, pu, u, hn, _, _ => absurd (Po.tot_pos x) (by omega)
  | n + 1, ⟨k, ⟨pk, pf, pv, pl⟩, f, v, l⟩, pu, u, hn, hs, hx => by
    refine NCall.fits (K := fun r m => r = .bool (Po.fits (.mk k (.mk pk pf pv pl) f v l)) ∧ MemFits m [hpB F]) ?_ fun r m' h => ⟨r, _, rfl, h.2, h.1, rfl⟩
    have hll := Po.length_le l
    have e2 := Po.tot_mk k (.mk pk pf pv pl) f v l
    have ih : ∀ x ∈ l, ∀ pA A, Po.At F x pA A → NCall Tryz.prog 30 [.agg (Po.cs x pA A)] [hpB F] fun r m => r = .bool (Po.fits x) ∧ m = [hpB F] := fun x hx pA A hA => fits27_c n x pA A (by have := Po.tot_lt (k := k) (q := .mk pk pf pv pl) (f := f) (v := v) hx; omega) (by have := Po.tot_lt (k := k) (q := .mk pk pf pv pl) (f := f) (v := v) hx; omega) hA
    have ct := reftop26_c f
    have cr := refright26_c F (.mk pk pf pv pl) pu (by omega) hx.p
    have cn := refsame26_c F _ (.mk pk pf pv pl) Po.noneP pu (.slice none 0 0) (Nat.le_refl _) (by omega) (by decide +kernel) hx.p RowF.nil
    rw [Po.fits, po_cs]
    by_cases hk : k = 1 ∨ k = 2 ∨ k = 3 ∨ k = 4 ∨ k = 5
    · rcases hk with rfl | rfl | rfl | rfl | rfl
      · exact fits27_1 F pk pf pv pl f v l pu u _ _ _ rfl rfl rfl hx.l hx.l.ok hx.p.ok (by omega) ih ct cr cn
      · exact fits27_2 F pk pf pv pl f v l pu u _ _ _ rfl rfl rfl hx.l hx.l.ok hx.p.ok (by omega) ih ct cr cn
      · exact fits27_3 F pk pf pv pl f v l pu u _ _ _ rfl rfl rfl hx.l hx.l.ok hx.p.ok (by omega) ih ct cr cn
      · exact fits27_4 F pk pf pv pl f v l pu u _ _ _ rfl rfl rfl hx.l hx.l.ok hx.p.ok (by omega) ih ct cr cn
      · exact fits27_5 F pk pf pv pl f v l pu u _ _ _ rfl rfl rfl hx.l hx.l.ok hx.p.ok (by omega) ih ct cr cn
    · exact fits27_z F k hk pk pf pv pl f v l pu u _ _ _ rfl rfl rfl hx.l hx.l.ok hx.p.ok (by omega) ih ct cr cn
theorem refright27_c (x : Po.T) (pu u : Value) (hs : Po.tot x ≤ 4611686018427387904) (hx : Po.At F x pu u) : NCall Tryz.prog 6 [.agg (Po.cs x pu u)] [hpB F] fun r m => r = .bool (Po.right x) ∧ m = [hpB F] := by
  refine NCall.fits (K := fun r m => r = .bool (Po.right x) ∧ MemFits m [hpB F]) ?_ fun r m' h => ⟨r, _, rfl, h.2, h.1, rfl⟩
  have c1 := refsize27_c F _ x pu u (Nat.le_refl _) hs hx
  have c2 := refdeep27_c F _ x pu u (Nat.le_refl _) hs hx
  have c3 := refwide27_c F _ x pu u (Nat.le_refl _) hs hx
  have c4 := fits27_c F _ x pu u (Nat.le_refl _) hs hx
  have hd := Po.deep_tot x
  have hz := Po.size_tot x
  have hwd := Po.wide_le x
  have hok := hx.l.ok
  have hpok := hx.p.ok
  unfold Po.right
  generalize Po.fits x = fb at *
  generalize Po.size x = sz at *
  generalize Po.deep x = dp at *
  generalize Po.wide x = wd at *
  simp only [Po.cs] at *
  clear hx
  refine ncall_of Tryz.func6 rfl (by decide) ?_
  cases fb
  · repeat' first|(intro K hK;(with_reducible refine gC ?_);refine cS [0] c4 ?_)|(refine sxZ ?_;try clear hK K)|refine sxW ?_ ?_<;>intro _|(intro K hK _;(conv=>whnf))
    all_goals first
      | (exfalso; omega)
      | exact ⟨by simp, MemFits.pre 1 rfl⟩
  by_cases h1 : dp ≤ 8
  · by_cases h2 : sz ≤ 64
    · by_cases h3 : wd ≤ 64
      · repeat' first|(intro K hK;(with_reducible refine gC ?_);first|refine cS [0] c4 ?_|refine cS [0] c1 ?_|refine cS [0] c2 ?_|refine cS [0] c3 ?_)|(refine sxZ ?_;try clear hK K)|refine sxW ?_ ?_<;>intro _|(intro K hK _;(conv=>whnf))
        all_goals first
          | (exfalso; omega)
          | (refine ⟨?_, MemFits.pre 1 rfl⟩; congr 1; simp [h1, h2, h3] <;> omega)
      · repeat' first|(intro K hK;(with_reducible refine gC ?_);first|refine cS [0] c4 ?_|refine cS [0] c1 ?_|refine cS [0] c2 ?_|refine cS [0] c3 ?_)|(refine sxZ ?_;try clear hK K)|refine sxW ?_ ?_<;>intro _|(intro K hK _;(conv=>whnf))
        all_goals first
          | (exfalso; omega)
          | (refine ⟨?_, MemFits.pre 1 rfl⟩; congr 1; simp [h3] <;> omega)
    · repeat' first|(intro K hK;(with_reducible refine gC ?_);first|refine cS [0] c4 ?_|refine cS [0] c2 ?_|refine cS [0] c1 ?_)|(refine sxZ ?_;try clear hK K)|refine sxW ?_ ?_<;>intro _|(intro K hK _;(conv=>whnf))
      all_goals first
        | (exfalso; omega)
        | (refine ⟨?_, MemFits.pre 1 rfl⟩; congr 1; simp [h2] <;> omega)
  · repeat' first|(intro K hK;(with_reducible refine gC ?_);first|refine cS [0] c4 ?_|refine cS [0] c2 ?_)|(refine sxZ ?_;try clear hK K)|refine sxW ?_ ?_<;>intro _|(intro K hK _;(conv=>whnf))
    all_goals first
      | (exfalso; omega)
      | (refine ⟨?_, MemFits.pre 1 rfl⟩; congr 1; simp [h1] <;> omega)
end
end Go.Proofs.YtngodakgbldlpaaGreatDoor


