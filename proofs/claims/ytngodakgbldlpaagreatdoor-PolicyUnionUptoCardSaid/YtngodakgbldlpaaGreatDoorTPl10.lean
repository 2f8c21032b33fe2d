/-
  Policies: the chapter's example.
-/
import Derived.Test.YtngodakgbldlpaaGreatDoorTPl6
import Derived.Test.YtngodakgbldlpaaGreatDoorTJ12
import Derived.Test.YtngodakgbldlpaaGreatDoorTPo8
import Derived.Test.YtngodakgbldlpaaGreatDoorTPo5
import Derived.Test.YtngodakgbldlpaaGreatDoorTPo26
namespace Go.Proofs.YtngodakgbldlpaaGreatDoor
open Go.Sx
set_option maxRecDepth 20000
set_option linter.unusedSimpArgs false
set_option linter.unusedVariables false
set_option maxHeartbeats 4000000
set_option linter.unusedVariables false
namespace Po
def exL : List T := [.mk 2 noneP 1 3 [], .mk 2 noneP 4 1 []]
def exX : T := .mk 3 noneP 0 0 exL
theorem ex_runs : runs 0 exX ⟨5, 7, 2, 0, 0⟩ = [⟨1, 7, 3, 0, 0⟩] := by decide +kernel
theorem ex_fits : fits exX = true := by decide +kernel
theorem ex_right : right exX = true := by decide +kernel
theorem ex_wide : wide exX = 1 := by decide +kernel
theorem ex_tot : tot exX = 6 := by decide +kernel
theorem ex_text : text exX = [100, 115, 116, 32, 58, 61, 32, 51, 59, 32, 112, 111, 114, 116, 32, 58, 61, 32, 49] := by decide +kernel
end Po
theorem awake27_run (F : Heap) (b : Nat) :
    NCall Tryz.prog 13 [.agg [.int .i64 3, .int .i64 0, .int .i64 0, .int .i64 0, .raw (.slice none 0 0), .int .i64 0, .int .i64 0, .sl 1 (.slice (some ⟨b, 0, none⟩) 2 2) 2], .int .i64 0, .int .i64 5, .agg [.int .i64 7, .int .i64 2, .int .i64 0, .int .i64 0]]
      [hpB F, ⟨⟨b, 0, none⟩, [.int .i64 2, .int .i64 0, .int .i64 0, .int .i64 0, .raw (.slice none 0 0), .int .i64 1, .int .i64 3, .raw (.slice none 0 0), .int .i64 2, .int .i64 0, .int .i64 0, .int .i64 0, .raw (.slice none 0 0), .int .i64 4, .int .i64 1, .raw (.slice none 0 0)], .row (.slice (some ⟨b, 0, none⟩) 2 2) 38 8 2⟩]
      fun r m => ∃ G v, F.le G ∧ Po.At G Po.exX (.slice none 0 0) (.slice (some ⟨b, 0, none⟩) 2 2) ∧ SlOk v 1 ∧ G.c ((addrOf v).add 0) (.int .i64 1) ∧ G.c ((addrOf v).add 1) (.int .i64 7) ∧ G.c ((addrOf v).add 2) (.int .i64 3) ∧ G.c ((addrOf v).add 3) (.int .i64 0) ∧ G.c ((addrOf v).add 4) (.int .i64 0) ∧ r = .hs v 1 ∧ m = [hpB G, hpB noHeap] := by
  have hok : SlOk (.slice (some ⟨b, 0, none⟩) 2 2) 2 := ⟨_, _, rfl, Nat.le_refl _, fun h => by cases h⟩
  generalize hw : Value.slice (some ⟨b, 0, none⟩) 2 2 = w at *
  have e8 : denL ([.int .i64 2, .int .i64 0, .int .i64 0, .int .i64 0, .raw (.slice none 0 0), .int .i64 1, .int .i64 3, .raw (.slice none 0 0), .int .i64 2, .int .i64 0, .int .i64 0, .int .i64 0, .raw (.slice none 0 0), .int .i64 4, .int .i64 1, .raw (.slice none 0 0)] : List AV) = [(⟨.mk 2 Po.noneP 1 3 [], .slice none 0 0, .slice none 0 0⟩ : Po.L), ⟨.mk 2 Po.noneP 4 1 [], .slice none 0 0, .slice none 0 0⟩].flatMap Po.psV := rfl
  have r8 := rowF_new (F := F) (sz := 8) (enc := Po.psV) hok e8 (fun x _ => rfl)
  have p8 := Po.row_of r8 fun p hp => by
    rcases List.mem_cons.1 hp with rfl | hp
    · exact ⟨RowF.nil, RowF.nil⟩
    · rw [List.mem_singleton.1 hp]; exact ⟨RowF.nil, RowF.nil⟩
  have hat : Po.At (addF F (addrOf w) (denL ([.int .i64 2, .int .i64 0, .int .i64 0, .int .i64 0, .raw (.slice none 0 0), .int .i64 1, .int .i64 3, .raw (.slice none 0 0), .int .i64 2, .int .i64 0, .int .i64 0, .int .i64 0, .raw (.slice none 0 0), .int .i64 4, .int .i64 1, .raw (.slice none 0 0)] : List AV))) Po.exX (.slice none 0 0) w := ⟨RowF.nil, p8⟩
  have c := Run27_c _ Po.exX (.slice none 0 0) w 0 ⟨5, 7, 2, 0, 0⟩ (by rw [Po.ex_tot]; decide) Po.ex_fits (by rw [Po.ex_runs]; decide) hat
  rw [Po.ex_runs] at c
  refine (NCall.pre (args := [.agg [.int .i64 3, .int .i64 0, .int .i64 0, .int .i64 0, .raw (.slice none 0 0), .int .i64 0, .int .i64 0, .sl 1 w 2], .int .i64 0, .int .i64 5, .agg [.int .i64 7, .int .i64 2, .int .i64 0, .int .i64 0]]) c rfl (MemFits.freeze (m := []))).fits fun r m' hr => ?_
  obtain ⟨G, u, h1, h2, rfl, rfl⟩ := hr
  obtain ⟨g0, g1, g2, g3, g4⟩ := RowF.get5 (f0 := fun s : Po.S => .int .i64 s.port) (f1 := fun s => .int .i64 s.p0) (f2 := fun s => .int .i64 s.p1) (f3 := fun s => .int .i64 s.p2) (f4 := fun s => .int .i64 s.p3) h2 (k := 0) (by decide)
  exact ⟨_, _, rfl, (MemFits.noHeap _).trans (MemFits.pick [1, 0] (by decide) rfl), G, u, addF.old.trans h1, Po.At.mono h1 hat, h2.ok, g0, g1, g2, g3, g4, rfl, rfl⟩
theorem awake27_c (F : Heap) (hT : TabF F) : NCall Tryz.prog 8 [] [hpB F] fun r m => r = .bool true ∧ m = [hpB F] := by
  refine NCall.fits (K := fun r m => r = .bool true ∧ ∃ F', F.le F' ∧ MemFits m [hpB F']) ?_ fun r m' ⟨h1, F', h2, h3⟩ => ⟨r, _, rfl, h3.trans (MemFits.less h2 []), h1, rfl⟩
  have ct : ∀ G w, TabF G → Po.At G Po.exX (.slice none 0 0) w → NCall Tryz.prog 28 [.agg [.int .i64 3, .int .i64 0, .int .i64 0, .int .i64 0, .hs (.slice none 0 0) 0, .int .i64 0, .int .i64 0, .hs w 2]] [hpB G] fun r m => r = .str [100, 115, 116, 32, 58, 61, 32, 51, 59, 32, 112, 111, 114, 116, 32, 58, 61, 32, 49] ∧ m = [hpB G] := fun G w hT h => by
    have := text27_c G hT _ Po.exX _ w (Nat.le_refl _) (by rw [Po.ex_tot]; decide) Po.ex_fits h
    rw [Po.ex_text] at this
    exact this
  have cr : ∀ G w, Po.At G Po.exX (.slice none 0 0) w → NCall Tryz.prog 15 [.agg [.int .i64 3, .int .i64 0, .int .i64 0, .int .i64 0, .hs (.slice none 0 0) 0, .int .i64 0, .int .i64 0, .hs w 2]] [hpB G] fun r m => r = .bool true ∧ m = [hpB G] := fun G w h => by
    have := right27_c G Po.exX _ w (by rw [Po.ex_tot]; decide) h
    rw [Po.ex_right] at this
    exact this
  have cw : ∀ G w, Po.At G Po.exX (.slice none 0 0) w → NCall Tryz.prog 20 [.agg [.int .i64 3, .int .i64 0, .int .i64 0, .int .i64 0, .hs (.slice none 0 0) 0, .int .i64 0, .int .i64 0, .hs w 2]] [hpB G] fun r m => r = .int .i64 1 ∧ m = [hpB G] := fun G w h => by
    have := wide27_c G _ Po.exX _ w (Nat.le_refl _) (by rw [Po.ex_tot]; decide) h
    rw [Po.ex_wide] at this
    exact this
  refine ncall_of Tryz.func8 rfl (by decide) ?_
  repeat' first|((try intro K hK);(with_reducible refine gC ?_);first|(refine cN [0, 1] (awake27_run F _) ?_;rintro _ _ ⟨G, u, hle, hat, hok, g0, g1, g2, g3, g4, rfl, rfl⟩;refine cR ?_)|refine cS [0] (ct G _ (hT.mono hle) hat) ?_|refine cS [0] (cr G _ hat) ?_|refine cS [0] (cw G _ hat) ?_)|((first|intro A B hA hB|intro K hK|skip);first|((with_reducible refine NIf.yes ?s ?_);(case s=>simp ;done);(conv=>whnf))|((with_reducible refine NIf.no ?s ?_);(case s=>simp ;done);(conv=>whnf)))|(refine sxZ ?_;(try clear hK K);try clear hA hB A B)|refine sxW ?_ ?_<;>intro _|(intro K hK _;(conv=>whnf))
  all_goals exact ⟨rfl, G, hle, MemFits.pre 1 rfl⟩
end Go.Proofs.YtngodakgbldlpaaGreatDoor


