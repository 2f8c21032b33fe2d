/-
  What a condition is at a switch, by the document. (Printed by gen_ck5.py.); CheckCuts, walked.
-/
import Derived.Test.YtpkjnmddembkjaaGreatDoorJ30
import Derived.Test.YtpkjnmddembkjaaGreatDoorJ33
import Derived.Test.YtpkjnmddembkjaaGreatDoorJ22
import Derived.Test.YtpkjnmddembkjaaGreatDoorJ11
import Derived.Test.YtpkjnmddembkjaaGreatDoorJ26
namespace Go.Proofs.YtpkjnmddembkjaaGreatDoor
open Go.Sx
set_option maxRecDepth 20000
set_option linter.unusedSimpArgs false
set_option linter.unusedVariables false
set_option maxHeartbeats 4000000
set_option linter.unusedVariables false
namespace Pd
end Pd
end Go.Proofs.YtpkjnmddembkjaaGreatDoor
namespace Go.Proofs.YtpkjnmddembkjaaGreatDoor
open Go.Sx
set_option maxRecDepth 20000
set_option linter.unusedSimpArgs false
set_option linter.unusedVariables false
set_option maxHeartbeats 4000000
set_option linter.unusedVariables false
theorem awake30_at (F : Heap) (b3 : Nat) :
    NCall Tryz.prog 18 [.agg [.int .i64 1, .int .i64 5, .int .i64 0, .int .i64 0, .sl 3 (.slice (some ⟨b3, 0, none⟩) 2 2) 2, .int .i64 0, .int .i64 0, .raw (.slice none 0 0)], .int .i64 2]
      [hpB F, ⟨⟨b3, 0, none⟩, [.int .i64 3, .int .i64 5, .int .i64 2, .raw (.slice none 0 0), .int .i64 3, .int .i64 1, .int .i64 1, .raw (.slice none 0 0)], .row (.slice (some ⟨b3, 0, none⟩) 2 2) 36 4 2⟩]
      fun r m => ∃ G pu u, F.le G ∧ Po.At G Po.exX (.slice (some ⟨b3, 0, none⟩) 2 2) (.slice none 0 0) ∧ Po.At G (Po.spec 2 Po.exX) pu u ∧ r = .agg (Po.cs (Po.spec 2 Po.exX) pu u) ∧ m = [hpB G, hpB noHeap] := by
  generalize hw3 : Value.slice (some ⟨b3, 0, none⟩) 2 2 = w3
  have a3 : (⟨b3, 0, none⟩ : Addr) = addrOf w3 := by rw [← hw3]; rfl
  rw [a3]
  have h0 := at27_c _ noHeap (.mk 1 (.mk 1 0 0 []) 0 0 []) (.slice none 0 0) (.slice none 0 0) 0 (Nat.le_refl _) (by decide +kernel) (by decide +kernel) ⟨Pd.nilRow _, Po.nilRow _⟩
  refine NCall.when h0 fun ⟨W, hw⟩ => ?_
  have hok3 := (hw.row (List.mem_cons_of_mem _ (List.mem_singleton.2 rfl))).1
  have e3 : denL [AV.int .i64 3, .int .i64 5, .int .i64 2, .raw (.slice none 0 0), .int .i64 3, .int .i64 1, .int .i64 1, .raw (.slice none 0 0)] = [((.mk 3 5 2 [] : Pd.T), (Value.slice none 0 0)), (.mk 3 1 1 [], .slice none 0 0)].flatMap Pd.psV := rfl
  have r3 := rowF_new (F := F) (sz := 4) (enc := Pd.psV) hok3 e3 (fun x _ => rfl)
  have p3 := Pd.row_of r3 fun p hp => by
    rcases List.mem_cons.1 hp with rfl | hp
    · exact RowF.nil
    · rw [List.mem_singleton.1 hp]; exact RowF.nil
  have hat : Po.At _ Po.exX w3 (.slice none 0 0) := ⟨p3, Po.nilRow _⟩
  have c := at27_c _ _ Po.exX w3 (.slice none 0 0) 2 (Nat.le_refl _) (by rw [Po.ex_tot]; decide) Po.ex_fits hat
  refine (NCall.pre (args := [.agg [.int .i64 1, .int .i64 5, .int .i64 0, .int .i64 0, .sl 3 w3 2, .int .i64 0, .int .i64 0, .raw (.slice none 0 0)], .int .i64 2]) c rfl (MemFits.freeze (m := []))).fits fun r m' hr => ?_
  obtain ⟨G, pu, u, h1, h2, h3, rfl⟩ := hr
  exact ⟨r, _, rfl, (MemFits.noHeap _).trans (MemFits.pick [1, 0] (by decide) rfl), G, pu, u, addF.old.trans h1, Po.At.mono h1 hat, h2, h3, rfl⟩
theorem awake30_c (F : Heap) (hT : TabF F) : NCall Tryz.prog 7 [] [hpB F] fun r m => r = .bool true ∧ m = [hpB F] := by
  refine NCall.fits (K := fun r m => r = .bool true ∧ ∃ F', F.le F' ∧ MemFits m [hpB F']) ?_ fun r m' ⟨h1, F', h2, h3⟩ => ⟨r, _, rfl, h3.trans (MemFits.less h2 []), h1, rfl⟩
  have c2 := awake30_at F
  rw [Po.ex_spec2] at c2
  have t2 := fun G pu u (hG : F.le G) h => textF27_c G (hT.mono hG) (.mk 3 1 1 []) pu u (by decide +kernel) (by decide +kernel) h
  have t1 := fun G pu u (hG : F.le G) h => textF27_c G (hT.mono hG) (.mk 2 0 0 []) pu u (by decide +kernel) (by decide +kernel) h
  rw [Po.ex_text2] at t2
  rw [Po.ex_text1] at t1
  have c1 := fun G pu u h => at27_c _ G Po.exX pu u 1 (Nat.le_refl _) (by rw [Po.ex_tot]; decide) Po.ex_fits h
  rw [Po.ex_spec1] at c1
  have cc := fun G pu u h => cells27_c G Po.exX pu u (by rw [Po.ex_tot]; decide) h
  rw [Po.ex_cells] at cc
  have k3 := fun G pu u h => check27_c G ⟨3, [], []⟩ (.slice none 0 0) (.slice none 0 0) Po.exX pu u true ⟨RowF.nil, RowF.nil⟩ (by decide) (by decide) (by rw [Po.ex_tot]; decide) h (topo0_c G 3 (by decide))
  have k2 := fun G pu u h => check27_c G ⟨2, [], []⟩ (.slice none 0 0) (.slice none 0 0) Po.exX pu u true ⟨RowF.nil, RowF.nil⟩ (by decide) (by decide) (by rw [Po.ex_tot]; decide) h (topo0_c G 2 (by decide))
  rw [Po.ex_check3] at k3
  rw [Po.ex_check2] at k2
  have c2 : ∀ b3 : Nat, NCall Tryz.prog 18 [.agg [.int .i64 1, .int .i64 5, .int .i64 0, .int .i64 0, .sl 3 (.slice (some ⟨b3, 0, none⟩) 2 2) 2, .int .i64 0, .int .i64 0, .raw (.slice none 0 0)], .int .i64 2]
      [hpB F, ⟨⟨b3, 0, none⟩, [.int .i64 3, .int .i64 5, .int .i64 2, .raw (.slice none 0 0), .int .i64 3, .int .i64 1, .int .i64 1, .raw (.slice none 0 0)], .row (.slice (some ⟨b3, 0, none⟩) 2 2) 36 4 2⟩]
      fun r m => ∃ G pu u, F.le G ∧ Po.At G Po.exX (.slice (some ⟨b3, 0, none⟩) 2 2) (.slice none 0 0) ∧ Po.At G (.mk 1 (.mk 3 1 1 []) 0 0 []) pu u ∧ r = .agg [.int .i64 1, .int .i64 3, .int .i64 1, .int .i64 1, .hs pu 0, .int .i64 0, .int .i64 0, .hs u 0] ∧ m = [hpB G, hpB noHeap] := c2
  have t2 : ∀ G pu u (hG : F.le G) h, NCall Tryz.prog 34 [.agg [.int .i64 1, .int .i64 3, .int .i64 1, .int .i64 1, .hs pu 0, .int .i64 0, .int .i64 0, .hs u 0]] [hpB G] fun r m => r = .str [119, 104, 101, 110, 32, 100, 115, 116, 32, 61, 32, 49] ∧ m = [hpB G] := t2
  have t1 : ∀ G pu u (hG : F.le G) h, NCall Tryz.prog 34 [.agg [.int .i64 1, .int .i64 2, .int .i64 0, .int .i64 0, .hs pu 0, .int .i64 0, .int .i64 0, .hs u 0]] [hpB G] fun r m => r = .str [100, 114, 111, 112] ∧ m = [hpB G] := t1
  have c1 : ∀ G w h, NCall Tryz.prog 18 [.agg [.int .i64 1, .int .i64 5, .int .i64 0, .int .i64 0, .hs w 2, .int .i64 0, .int .i64 0, .hs (.slice none 0 0) 0], .int .i64 1] [hpB G] fun r m => ∃ F' pu u, G.le F' ∧ Po.At F' (.mk 1 (.mk 2 0 0 []) 0 0 []) pu u ∧ r = .agg [.int .i64 1, .int .i64 2, .int .i64 0, .int .i64 0, .hs pu 0, .int .i64 0, .int .i64 0, .hs u 0] ∧ m = [hpB F'] := fun G w h => c1 G w (.slice none 0 0) h
  have cc : ∀ G w h, NCall Tryz.prog 14 [.agg [.int .i64 1, .int .i64 5, .int .i64 0, .int .i64 0, .hs w 2, .int .i64 0, .int .i64 0, .hs (.slice none 0 0) 0]] [hpB G] fun r m => r = .int .i64 2 ∧ m = [hpB G] := fun G w h => cc G w (.slice none 0 0) h
  have k3 : ∀ G w h, NCall Tryz.prog 9 [.agg [.int .i64 3, .raw (.slice none 0 0), .raw (.slice none 0 0)], .agg [.int .i64 1, .int .i64 5, .int .i64 0, .int .i64 0, .hs w 2, .int .i64 0, .int .i64 0, .hs (.slice none 0 0) 0]] [hpB G] fun r m => r = .int .i64 0 ∧ m = [hpB G] := fun G w h => NCall.pre (k3 G w (.slice none 0 0) h) rfl (MemFits.eq rfl)
  have k2 : ∀ G w h, NCall Tryz.prog 9 [.agg [.int .i64 2, .raw (.slice none 0 0), .raw (.slice none 0 0)], .agg [.int .i64 1, .int .i64 5, .int .i64 0, .int .i64 0, .hs w 2, .int .i64 0, .int .i64 0, .hs (.slice none 0 0) 0]] [hpB G] fun r m => r = .int .i64 13 ∧ m = [hpB G] := fun G w h => NCall.pre (k2 G w (.slice none 0 0) h) rfl (MemFits.eq rfl)
  refine ncall_of Tryz.func7 rfl (by decide) ?_
  (repeat' (first|(with_reducible first|(refine hK _ _ ?_;clear hK K)|(refine hK _ ?_;clear hK K))|((with_reducible refine gO ?_);(first|((with_reducible first|refine z25 ?_|refine z26 ?_);intro K hK;(conv=>whnf))|(with_reducible refine z0 ?_)))|((first|((with_reducible refine gI ?_);((((with_reducible refine NIf.yes ?s ?_);case s=>(simp ;done)))))|((with_reducible refine gH ?_);((with_reducible refine NH.mk ?s ?_);case s=>(and_intros<;>first|with_reducible rfl|((with_reducible refine gOnes ?_);rfl)|((with_reducible refine gLen ?_);rfl)|omega)))|((with_reducible refine gC ?_);(first|((with_reducible refine NCall.isF 18 ?_);refine NCall.subw [0, 3] _ _ (c2 _) rfl (by decide) rfl ?_; rintro _ _ ⟨G, pu, u, hle, hx, hs, rfl, rfl⟩; refine ⟨Nat.le_of_ble_eq_true rfl, _, rfl, ?_⟩)|((with_reducible refine NCall.isF 34 ?_);refine NCall.subE [0] (t2 G pu u hle hs) rfl (by decide) rfl rfl ?_)|((with_reducible refine NCall.isF 18 ?_);refine NCall.subw [0] _ _ (c1 G _ hx) rfl (by decide) rfl ?_; rintro _ _ ⟨G2, pu2, u2, hle2, hs2, rfl, rfl⟩; refine ⟨Nat.le_of_ble_eq_true rfl, _, rfl, ?_⟩)|((with_reducible refine NCall.isF 34 ?_);refine NCall.subE [0] (t1 G2 pu2 u2 (hle.trans hle2) hs2) rfl (by decide) rfl rfl ?_)|((with_reducible refine NCall.isF 14 ?_);refine NCall.subE [0] (cc G2 _ (Po.At.mono hle2 hx)) rfl (by decide) rfl rfl ?_)|((with_reducible refine NCall.isF 9 ?_);refine NCall.subE [0] (k3 G2 _ (Po.At.mono hle2 hx)) rfl (by decide) rfl rfl ?_)|((with_reducible refine NCall.isF 9 ?_);refine NCall.subE [0] (k2 G2 _ (Po.At.mono hle2 hx)) rfl (by decide) rfl rfl ?_))))<;>(conv=>whnf))|((with_reducible refine gX ?_);((with_reducible first|refine z3 ?_|refine z4 ?_|refine z8 ?_)))|(with_reducible first|refine z1 ?_|refine z2 ?_)|((with_reducible refine gR ?_);((refine z31 rfl ?_);intro K hK;(conv=>whnf)))|((with_reducible refine gF ?_);((refine z33 rfl ?_);intro K hK;(conv=>whnf)))|((intro _;skip)<;>(conv=>whnf))))
  all_goals exact ⟨rfl, G2, hle.trans hle2, MemFits.pre 1 rfl⟩
end Go.Proofs.YtpkjnmddembkjaaGreatDoor
