/-
  Journals, parsed by the document's text: a line.
-/
import Derived.Test.YtdalneokgejmjaaDoorJr12a
import Derived.Test.YtdalneokgejmjaaDoorJr12b
import Derived.Test.YtdalneokgejmjaaDoorJr12c
import Derived.Test.YtdalneokgejmjaaDoorJr12d
namespace Go.Proofs.YtdalneokgejmjaaDoor
open Go.Sx
set_option maxRecDepth 20000
set_option maxHeartbeats 4000000
set_option linter.unusedVariables false
theorem refread36_c (s : List UInt8) (hs : s.length ≤ 5000) : NCall Tryd.prog 15 [.str s] [] fun r _ => r = .tup [.agg (Jr.qr s).av, .bool (decide (Jr.okR (Jr.qr s) ∧ Jr.line (Jr.qr s) = s))] := by
  have hat := Jr.atSp_le s
  have hstep := fun k h => Jr.atSp_lt (s := s) (k := k) h
  have b1 : (Jr.n1 s).1 < 10000000000000000 ∧ (Jr.n1 s).2 ≤ Jr.atSp s + 1 + 16 := Jr.n_lt s _
  have b2 : (Jr.n2 s).1 < 10000000000000000 ∧ (Jr.n2 s).2 ≤ (Jr.n1 s).2 + 1 + 16 := Jr.n_lt s _
  have b3 : (Jr.n3 s).1 < 10000000000000000 ∧ (Jr.n3 s).2 ≤ (Jr.n2 s).2 + 1 + 16 := Jr.n_lt s _
  have c1 : NCall Tryd.prog 27 [.str s, .int .i64 (Jr.atSp s + 1)] [] fun r _ => r = .tup [.int .i64 (Jr.n1 s).1, .int .i64 (Jr.n1 s).2] := number36_c s hs (Jr.atSp s + 1) (by omega)
  have c2 : NCall Tryd.prog 27 [.str s, .int .i64 ((Jr.n1 s).2 + 1)] [] fun r _ => r = .tup [.int .i64 (Jr.n2 s).1, .int .i64 (Jr.n2 s).2] := number36_c s hs ((Jr.n1 s).2 + 1) (by omega)
  have c3 : NCall Tryd.prog 27 [.str s, .int .i64 ((Jr.n2 s).2 + 1)] [] fun r _ => r = .tup [.int .i64 (Jr.n3 s).1, .int .i64 (Jr.n3 s).2] := number36_c s hs ((Jr.n2 s).2 + 1) (by omega)
  have hl : 0 < Jr.kindTo (s.take (Jr.atSp s)) 7 → NCall Tryd.prog 19 [.agg [.int .i64 (Jr.kindTo (s.take (Jr.atSp s)) 7 : Nat), .int .i64 (Jr.n1 s).1, .int .i64 (Jr.n2 s).1, .int .i64 (Jr.n3 s).1]] [] fun v _ => v = .str (Jr.line (Jr.qr s)) := fun _ => refline36_c (Jr.qr s) (Jr.qr_ok s)
  have hk7 := Jr.kindTo_le (s.take (Jr.atSp s)) 7
  have hq : Jr.qr s = ⟨Jr.kindTo (s.take (Jr.atSp s)) 7, (Jr.n1 s).1, (Jr.n2 s).1, (Jr.n3 s).1⟩ := rfl
  have hav : (Jr.qr s).av = [.int .i64 (Jr.kindTo (s.take (Jr.atSp s)) 7 : Nat), .int .i64 (Jr.n1 s).1, .int .i64 (Jr.n2 s).1, .int .i64 (Jr.n3 s).1] := rfl
  have hDT : 0 < Jr.kindTo (s.take (Jr.atSp s)) 7 → Jr.line (Jr.qr s) = s → (Jr.n1 s).1 ≤ 1125899906842624 → (Jr.n2 s).1 ≤ 1125899906842624 → (Jr.n3 s).1 ≤ 1125899906842624 → decide (Jr.okR (Jr.qr s) ∧ Jr.line (Jr.qr s) = s) = true := fun h1 h2 h3 h4 h5 => by
    refine decide_eq_true ⟨⟨⟨?_, ?_⟩, ⟨?_, ?_⟩, ⟨?_, ?_⟩, ?_, ?_⟩, h2⟩ <;> rw [hq] <;> dsimp only <;> omega
  have hDF : ¬ (0 < Jr.kindTo (s.take (Jr.atSp s)) 7 ∧ Jr.line (Jr.qr s) = s ∧ (Jr.n1 s).1 ≤ 1125899906842624 ∧ (Jr.n2 s).1 ≤ 1125899906842624 ∧ (Jr.n3 s).1 ≤ 1125899906842624) → decide (Jr.okR (Jr.qr s) ∧ Jr.line (Jr.qr s) = s) = false := fun h => by
    refine decide_eq_false fun ⟨h1, h2⟩ => h ?_
    obtain ⟨⟨h3, h4⟩, ⟨h5, h6⟩, ⟨h7, h8⟩, h9, h10⟩ := h1
    rw [hq] at h3 h6 h8 h10
    dsimp only at h3 h6 h8 h10
    refine ⟨?_, h2, ?_, ?_, ?_⟩ <;> omega
  rw [hav]
  by_cases hlen : Jr.atSp s < s.length
  · by_cases hk0 : 0 < Jr.kindTo (s.take (Jr.atSp s)) 7
    · by_cases hT : Jr.line (Jr.qr s) = s
      · by_cases hu : (Jr.n1 s).1 ≤ 1125899906842624
        · by_cases ha : (Jr.n2 s).1 ≤ 1125899906842624
          · by_cases hb : (Jr.n3 s).1 ≤ 1125899906842624
            · rw [hDT hk0 hT hu ha hb]
              exact refread36_lt_all s _ hs _ _ _ _ _ _ _ _ _ hat hstep rfl rfl b1 b2 b3 c1 c2 c3 hl hlen hk0 hT hu ha hb
            · rw [hDF (fun h => hb h.2.2.2.2)]
              exact refread36_lt_b s _ hs _ _ _ _ _ _ _ _ _ hat hstep rfl rfl b1 b2 b3 c1 c2 c3 hl hlen hk0 hT hu ha hb
          · rw [hDF (fun h => ha h.2.2.2.1)]
            exact refread36_lt_a s _ hs _ _ _ _ _ _ _ _ _ hat hstep rfl rfl b1 b2 b3 c1 c2 c3 hl hlen hk0 hT hu ha
        · rw [hDF (fun h => hu h.2.2.1)]
          exact refread36_lt_u s _ hs _ _ _ _ _ _ _ _ _ hat hstep rfl rfl b1 b2 b3 c1 c2 c3 hl hlen hk0 hT hu
      · rw [hDF (fun h => hT h.2.1)]
        exact refread36_lt_line s _ hs _ _ _ _ _ _ _ _ _ hat hstep rfl rfl b1 b2 b3 c1 c2 c3 hl hlen hk0 hT
    · rw [hDF (fun h => hk0 h.1)]
      exact refread36_lt_zero s _ hs _ _ _ _ _ _ _ _ _ hat hstep rfl rfl b1 b2 b3 c1 c2 c3 hl hlen (by omega)
  · by_cases hk0 : 0 < Jr.kindTo (s.take (Jr.atSp s)) 7
    · by_cases hT : Jr.line (Jr.qr s) = s
      · by_cases hu : (Jr.n1 s).1 ≤ 1125899906842624
        · by_cases ha : (Jr.n2 s).1 ≤ 1125899906842624
          · by_cases hb : (Jr.n3 s).1 ≤ 1125899906842624
            · rw [hDT hk0 hT hu ha hb]
              exact refread36_eq_all s _ hs _ _ _ _ _ _ _ _ _ hat hstep rfl rfl b1 b2 b3 c1 c2 c3 hl hlen hk0 hT hu ha hb
            · rw [hDF (fun h => hb h.2.2.2.2)]
              exact refread36_eq_b s _ hs _ _ _ _ _ _ _ _ _ hat hstep rfl rfl b1 b2 b3 c1 c2 c3 hl hlen hk0 hT hu ha hb
          · rw [hDF (fun h => ha h.2.2.2.1)]
            exact refread36_eq_a s _ hs _ _ _ _ _ _ _ _ _ hat hstep rfl rfl b1 b2 b3 c1 c2 c3 hl hlen hk0 hT hu ha
        · rw [hDF (fun h => hu h.2.2.1)]
          exact refread36_eq_u s _ hs _ _ _ _ _ _ _ _ _ hat hstep rfl rfl b1 b2 b3 c1 c2 c3 hl hlen hk0 hT hu
      · rw [hDF (fun h => hT h.2.1)]
        exact refread36_eq_line s _ hs _ _ _ _ _ _ _ _ _ hat hstep rfl rfl b1 b2 b3 c1 c2 c3 hl hlen hk0 hT
    · rw [hDF (fun h => hk0 h.1)]
      exact refread36_eq_zero s _ hs _ _ _ _ _ _ _ _ _ hat hstep rfl rfl b1 b2 b3 c1 c2 c3 hl hlen (by omega)
end Go.Proofs.YtdalneokgejmjaaDoor
