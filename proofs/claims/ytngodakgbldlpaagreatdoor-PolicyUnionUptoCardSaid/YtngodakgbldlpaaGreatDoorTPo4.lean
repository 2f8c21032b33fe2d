/-
  Policies: which may be, by the program.
-/
import Derived.Test.YtngodakgbldlpaaGreatDoorTPo3
import Derived.Test.YtngodakgbldlpaaGreatDoorTPd6
namespace Go.Proofs.YtngodakgbldlpaaGreatDoor
open Go.Sx
set_option maxRecDepth 20000
set_option linter.unusedSimpArgs false
set_option linter.unusedVariables false
set_option maxHeartbeats 4000000
set_option linter.unusedVariables false
theorem Po.any_fits (l : List Po.T) : (l.any fun x => !Po.fits x) = !Po.fitsL l := by
  induction l with
  | nil => rfl
  | cons p l ih => rw [List.any_cons, ih, Po.fitsL]; cases Po.fits p <;> simp
theorem poF {p : Prop} [Decidable p] (h : ¬ p) : AV.bool false = AV.bool (decide p) := by rw [decide_eq_false h]
section
variable (F : Heap)
theorem none27_c (k : Int) (p : Pd.T) (f v : Int) (l : List Po.T) (pu u : Value) (hok : SlOk u l.length) (hs : Pd.size p ≤ 4611686018427387904) (hp : Pd.Row F pu p.l) :
    NCall Tryz.prog 93 [.agg (Po.cs (.mk k p f v l) pu u)] [hpB F] fun r m => r = .bool (Po.none p) ∧ m = [hpB F] := by
  refine NCall.fits (K := fun r m => r = .bool (Po.none p) ∧ MemFits m [hpB F]) ?_ fun r m' h => ⟨r, _, rfl, h.2, h.1, rfl⟩
  have c := same26_c F _ p Po.noneP pu (.slice none 0 0) (Nat.le_refl _) hs (by decide +kernel) hp RowF.nil
  have hpok := hp.ok
  rw [po_cs]
  unfold Po.none
  generalize Pd.same p Po.noneP = b at *
  clear hs hp
  obtain ⟨pk, pf, pv, pl⟩ := p
  simp only [pd_cs, Po.noneP, Pd.T.k, Pd.T.f, Pd.T.v, Pd.T.l, List.length_nil] at *
  refine ncall_of Tryz.func93 rfl (by decide) ?_
  repeat' first|(intro K hK;(with_reducible refine gC ?_);refine cS [0] c ?_)|(refine sxZ ?_;try clear hK K)|refine sxW ?_ ?_<;>intro _|(intro K hK _;(conv=>whnf))
  all_goals exact ⟨rfl, MemFits.pre 1 rfl⟩
theorem shape27_c (k : Int) (p : Pd.T) (f v : Int) (l : List Po.T) (pu u : Value) (hs : Pd.size p ≤ 4611686018427387904) (hn : l.length ≤ 4611686018427387904) (hx : Po.At F (.mk k p f v l) pu u) :
    NCall Tryz.prog 70 [.agg (Po.cs (.mk k p f v l) pu u)] [hpB F] fun r m => r = .bool (Po.shape k p f v l.length) ∧ m = [hpB F] := by
  refine NCall.fits (K := fun r m => r = .bool (Po.shape k p f v l.length) ∧ MemFits m [hpB F]) ?_ fun r m' h => ⟨r, _, rfl, h.2, h.1, rfl⟩
  have hp : Pd.Row F pu p.l := hx.p
  have hok : SlOk u l.length := hx.l.ok
  have hpok := hp.ok
  have cn := none27_c F k p f v l pu u hok hs hp
  have cr := right26_c F p pu hs hp
  have ct := top26_c f
  unfold Po.shape
  rw [po_cs] at *
  generalize Po.none p = nb at *
  generalize Pd.right p = rb at *
  generalize Pd.top f = tp at *
  clear hs hx hp
  obtain ⟨pk, pf, pv, pl⟩ := p
  simp only [pd_cs, Pd.T.k, Pd.T.f, Pd.T.v, Pd.T.l] at *
  generalize l.length = n at *
  refine ncall_of Tryz.func70 rfl (by decide) ?_
  by_cases h1 : k = 1
  · subst h1
    cases rb
    all_goals (repeat' first|(intro K hK;(with_reducible refine gC ?_);refine cS [0] cr ?_)|(refine sxZK [] ?_;try clear hK K)|refine sxW ?_ ?_<;>intro _|refine sxVK ?_ ?_|(intro K hK _;(conv=>whnf)))
    all_goals first
      | exact ⟨poF (by simp; try omega), MemFits.pre 1 rfl⟩
      | exact ⟨poT (by simp; omega), MemFits.pre 1 rfl⟩
      | (refine ⟨?_, MemFits.pre 1 rfl⟩; congr 1; apply decide_eq_decide.2; simp; omega)
  by_cases h2 : k = 2
  · subst h2
    cases nb
    all_goals (repeat' first|(intro K hK;(with_reducible refine gC ?_);first|refine cS [0] cn ?_|refine cP ct ?_)|(refine sxZK [] ?_;try clear hK K)|refine sxW ?_ ?_<;>intro _|refine sxVK ?_ ?_|(intro K hK _;(conv=>whnf)))
    all_goals first
      | exact ⟨poF (by simp; try omega), MemFits.pre 1 rfl⟩
      | exact ⟨poT (by simp; omega), MemFits.pre 1 rfl⟩
      | (refine ⟨?_, MemFits.pre 1 rfl⟩; congr 1; apply decide_eq_decide.2; simp; omega)
  by_cases h34 : k = 3 ∨ k = 4
  · rcases h34 with rfl | rfl
    iterate 2
      · cases nb
        all_goals (repeat' first|(intro K hK;(with_reducible refine gC ?_);refine cS [0] cn ?_)|(refine sxZK [] ?_;try clear hK K)|refine sxW ?_ ?_<;>intro _|refine sxVK ?_ ?_|(intro K hK _;(conv=>whnf)))
        all_goals first
          | exact ⟨poF (by simp; try omega), MemFits.pre 1 rfl⟩
          | exact ⟨poT (by simp; omega), MemFits.pre 1 rfl⟩
          | (refine ⟨?_, MemFits.pre 1 rfl⟩; congr 1; apply decide_eq_decide.2; simp; omega)
  by_cases h5 : k = 5
  · subst h5
    cases rb
    all_goals (repeat' first|(intro K hK;(with_reducible refine gC ?_);refine cS [0] cr ?_)|(refine sxZK [] ?_;try clear hK K)|refine sxW ?_ ?_<;>intro _|refine sxVK ?_ ?_|(intro K hK _;(conv=>whnf)))
    all_goals first
      | exact ⟨poF (by simp; try omega), MemFits.pre 1 rfl⟩
      | exact ⟨poT (by simp; omega), MemFits.pre 1 rfl⟩
      | (refine ⟨?_, MemFits.pre 1 rfl⟩; congr 1; apply decide_eq_decide.2; simp; omega)
  repeat' first|(refine sxZK [] ?_;try clear hK K)|refine sxW ?_ ?_<;>intro _|refine sxVK ?_ ?_|(intro K hK _;(conv=>whnf))
  all_goals first
    | exact ⟨poF (by omega), MemFits.pre 1 rfl⟩
    | (exfalso; omega)
end
end Go.Proofs.YtngodakgbldlpaaGreatDoor


