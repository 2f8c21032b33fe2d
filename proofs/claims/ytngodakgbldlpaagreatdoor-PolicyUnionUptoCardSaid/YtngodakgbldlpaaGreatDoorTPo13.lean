/-
  Packets that come: a field set, and which one stands first.
-/
import Derived.Test.YtngodakgbldlpaaGreatDoorTJ1
import Derived.Test.YtngodakgbldlpaaGreatDoorTPd3
import Derived.Test.YtngodakgbldlpaaGreatDoorTSxK
import Derived.Test.YtngodakgbldlpaaGreatDoorTSxD
import Derived.Sort.Grow
namespace Go.Proofs.YtngodakgbldlpaaGreatDoor
open Go.Sx
set_option maxRecDepth 20000
set_option linter.unusedSimpArgs false
set_option linter.unusedVariables false
set_option maxHeartbeats 4000000
set_option linter.unusedVariables false
theorem is27_c (f : Int) (b : Bool) (hb : b = true ↔ 0 ≤ f ∧ f < 4) : NCall Tryz.prog 115 [.int .i64 f] [] fun r _ => r = .bool b := by
  refine ncall_of Tryz.func115 rfl (by decide) ?_
  cases b
  · have hn : ¬ (0 ≤ f ∧ f < 4) := fun h => by cases hb.2 h
    repeat' first|(refine sxZ ?_;try clear hK K)|refine sxW ?_ ?_<;>intro _|(intro K hK _;(conv=>whnf))
    all_goals first
      | rfl
      | (congr 1; simp only [decide_eq_false_iff_not]; omega)
      | (exfalso; omega)
  · have hp := hb.1 rfl
    repeat' first|(refine sxZ ?_;try clear hK K)|refine sxW ?_ ?_<;>intro _|(intro K hK _;(conv=>whnf))
    all_goals first
      | rfl
      | (congr 1; simp only [decide_eq_true_eq]; omega)
      | (exfalso; omega)
theorem with27_c (s : Po.S) (f v : Int) : NCall Tryz.prog 88 [.agg [.int .i64 s.p0, .int .i64 s.p1, .int .i64 s.p2, .int .i64 s.p3], .int .i64 f, .int .i64 v] [] fun r _ => r = .agg [.int .i64 (Po.withS f v s).p0, .int .i64 (Po.withS f v s).p1, .int .i64 (Po.withS f v s).p2, .int .i64 (Po.withS f v s).p3] := by
  refine NCall.fits (K := fun r m => r = .agg [.int .i64 (Po.withS f v s).p0, .int .i64 (Po.withS f v s).p1, .int .i64 (Po.withS f v s).p2, .int .i64 (Po.withS f v s).p3]) ?_ fun r m' h => ⟨r, _, rfl, MemFits.eq rfl, h⟩
  have ht : NCall Tryz.prog 116 [.int .i64 f] [] fun r _ => r = .int .i64 (Po.ptop f) := ptop26_c f
  refine ncall_of Tryz.func88 rfl (by decide) ?_
  have hw : Po.withS f v s = if (0 ≤ f ∧ f < 4) ∧ 0 ≤ v ∧ v ≤ Po.ptop f then (if f = 0 then { s with p0 := v } else if f = 1 then { s with p1 := v } else if f = 2 then { s with p2 := v } else { s with p3 := v }) else s := rfl
  by_cases h4 : 0 ≤ f ∧ f < 4
  · have hi := is27_c f true (by simpa using h4)
    generalize Po.withS f v s = E at *
    generalize Po.ptop f = tp at *
    obtain ⟨a0, a, b, c, d⟩ := s
    by_cases hv : 0 ≤ v ∧ v ≤ tp
    · rw [if_pos ⟨h4, hv⟩] at hw
      have h4' : f = 0 ∨ f = 1 ∨ f = 2 ∨ f = 3 := by omega
      rcases h4' with rfl | rfl | rfl | rfl
      all_goals
        subst hw
        simp only
        repeat' first|(intro K hK;(with_reducible refine gC ?_);first|refine cP hi ?_|refine cP ht ?_)|(refine sxZ ?_;try clear hK K)|refine sxW ?_ ?_<;>intro _|(intro K hK _;(conv=>whnf))
        all_goals rfl
    · rw [if_neg (fun h => hv h.2)] at hw
      subst hw
      simp only
      repeat' first|(intro K hK;(with_reducible refine gC ?_);first|refine cP hi ?_|refine cP ht ?_)|(refine sxZ ?_;try clear hK K)|refine sxW ?_ ?_<;>intro _|(intro K hK _;(conv=>whnf))
      all_goals first | rfl | (exfalso; omega)
  · have hi := is27_c f false (by simpa using h4)
    rw [if_neg (fun h => h4 h.1)] at hw
    rw [hw]
    obtain ⟨a0, a, b, c, d⟩ := s
    simp only
    repeat' first|(intro K hK;(with_reducible refine gC ?_);refine cP hi ?_)|(refine sxZ ?_;try clear hK K)|refine sxW ?_ ?_<;>intro _|(intro K hK _;(conv=>whnf))
    all_goals rfl
theorem set27_c (k f v : Int) (p0 p1 p2 : Int) (pv uv : AV) (s : Po.S) : NCall Tryz.prog 62 [.agg [.int .i64 k, .int .i64 p0, .int .i64 p1, .int .i64 p2, pv, .int .i64 f, .int .i64 v, uv], .agg s.av] [] fun r _ => r = .agg (Po.put f v s).av := by
  refine NCall.fits (K := fun r m => r = .agg (Po.put f v s).av) ?_ fun r m' h => ⟨r, _, rfl, MemFits.eq rfl, h⟩
  have cw := with27_c s f v
  have hp : (Po.withS f v s).port = s.port := by unfold Po.withS; repeat' split
                                                 all_goals rfl
  have hput : Po.put f v s = if f = 4 then { s with port := v } else Po.withS f v s := rfl
  refine ncall_of Tryz.func62 rfl (by decide) ?_
  unfold Po.S.av
  generalize Po.put f v s = E at *
  generalize Po.withS f v s = W at *
  obtain ⟨w, w0, w1, w2, w3⟩ := W
  obtain ⟨a0, a, b, c, d⟩ := s
  simp only at hp cw
  subst hp
  by_cases h4 : f = 4
  · rw [if_pos h4] at hput
    subst hput h4
    simp only
    repeat' first|(refine sxZ ?_;try clear hK K)|refine sxW ?_ ?_<;>intro _|(intro K hK _;(conv=>whnf))
    all_goals rfl
  · rw [if_neg h4] at hput
    subst hput
    simp only
    repeat' first|(intro K hK;(with_reducible refine gC ?_);refine cP cw ?_)|(refine sxZ ?_;try clear hK K)|refine sxW ?_ ?_<;>intro _|(intro K hK _;(conv=>whnf))
    all_goals rfl
theorem nan27_c (n : Int) : NCall Tryz.prog 91 [.int .i64 n] [] fun r _ => r = .bool false := by
  refine ncall_of Tryz.func91 rfl (by decide) ?_
  repeat' first|(refine sxZ ?_;try clear hK K)|refine sxW ?_ ?_<;>intro _|(intro K hK _;(conv=>whnf))
  all_goals simp
theorem compare27_c (a b : Int) : NCall Tryz.prog 68 [.int .i64 a, .int .i64 b] [] fun r _ => r = .int .i64 (Po.cmpI a b) := by
  have ca := nan27_c a
  have cb := nan27_c b
  have hc : Po.cmpI a b = if a < b then -1 else if b < a then 1 else 0 := rfl
  generalize Po.cmpI a b = c at *
  refine ncall_of Tryz.func68 rfl (by decide) ?_
  by_cases h1 : a < b
  · rw [if_pos h1] at hc
    repeat' first|(intro K hK;(with_reducible refine gC ?_);first|refine cP ca ?_|refine cP cb ?_)|(refine sxZ ?_;try clear hK K)|refine sxW ?_ ?_<;>intro _|(intro K hK _;(conv=>whnf))
    all_goals first | (rw [hc]) | (exfalso; omega)
  · rw [if_neg h1] at hc
    by_cases h2 : b < a
    · rw [if_pos h2] at hc
      repeat' first|(intro K hK;(with_reducible refine gC ?_);first|refine cP ca ?_|refine cP cb ?_)|(refine sxZ ?_;try clear hK K)|refine sxW ?_ ?_<;>intro _|(intro K hK _;(conv=>whnf))
      all_goals first | (rw [hc]) | (exfalso; omega)
    · rw [if_neg h2] at hc
      repeat' first|(intro K hK;(with_reducible refine gC ?_);first|refine cP ca ?_|refine cP cb ?_)|(refine sxZ ?_;try clear hK K)|refine sxW ?_ ?_<;>intro _|(intro K hK _;(conv=>whnf))
      all_goals first | (rw [hc]) | (exfalso; omega)
end Go.Proofs.YtngodakgbldlpaaGreatDoor


