/-
  CheckCuts, walked.
-/
import Derived.Test.YtpkjnmddembkjaaGreatDoorCk7
import Derived.Test.YtpkjnmddembkjaaGreatDoorCk5
import Derived.Test.YtpkjnmddembkjaaGreatDoorPd8
import Derived.Test.YtpkjnmddembkjaaGreatDoorPd9
import Derived.Test.YtpkjnmddembkjaaGreatDoorPd16
namespace Go.Proofs.YtpkjnmddembkjaaGreatDoor
open Go.Sx
set_option maxRecDepth 20000
set_option linter.unusedSimpArgs false
set_option linter.unusedVariables false
set_option maxHeartbeats 4000000
set_option linter.unusedVariables false
theorem awake30_at (F : Heap) (b3 : Nat) :
    NCall Tryz.prog 18 [.agg [.int .i64 1, .int .i64 5, .int .i64 0, .int .i64 0, .sl 3 (.slice (some ⟨b3, 0, none⟩) 2 2) 2, .int .i64 0, .int .i64 0, .raw (.slice none 0 0)], .int .i64 2]
      [hpB F, ⟨⟨b3, 0, none⟩, [.int .i64 3, .int .i64 5, .int .i64 2, .raw (.slice none 0 0), .int .i64 3, .int .i64 1, .int .i64 1, .raw (.slice none 0 0)], .row (.slice (some ⟨b3, 0, none⟩) 2 2) 36 4 2⟩]
      fun r m => ∃ G pu u, F.le G ∧ Po.At G Po.exX (.slice (some ⟨b3, 0, none⟩) 2 2) (.slice none 0 0) ∧ Po.At G (Po.spec 2 Po.exX) pu u ∧ r = .agg (Po.cs (Po.spec 2 Po.exX) pu u) ∧ m = [hpB G, hpB noHeap] := by
  generalize hw3 : Value.slice (some ⟨b3, 0, none⟩) 2 2 = w3
  have a3 : (⟨b3, 0, none⟩ : Addr) = addrOf w3 := by rw [← hw3]; rfl
  rw [a3]
  have h0 := at27_c _ noHeap (.mk 1 (.mk 1 0 0 []) 0 0 []) (.slice none 0 0) (.slice none 0 0) 0 (Nat.le_refl _) (by decide +kernel) (by decide +kernel) ⟨Pd.nilRow _, Po.nilRow _⟩
  refine NCall.when h0 fun ⟨W, hw⟩ => ?_
  have hok3 := (hw.row (List.mem_cons_of_mem _ (List.mem_singleton.2 rfl))).1
  have e3 : denL [AV.int .i64 3, .int .i64 5, .int .i64 2, .raw (.slice none 0 0), .int .i64 3, .int .i64 1, .int .i64 1, .raw (.slice none 0 0)] = [((.mk 3 5 2 [] : Pd.T), (Value.slice none 0 0)), (.mk 3 1 1 [], .slice none 0 0)].flatMap Pd.psV := rfl
  have r3 := rowF_new (F := F) (sz := 4) (enc := Pd.psV) hok3 e3 (fun x _ => rfl)
  have p3 := Pd.row_of r3 fun p hp => by
    rcases List.mem_cons.1 hp with rfl | hp
    · exact RowF.nil
    · rw [List.mem_singleton.1 hp]; exact RowF.nil
  have hat : Po.At _ Po.exX w3 (.slice none 0 0) := ⟨p3, Po.nilRow _⟩
  have c := at27_c _ _ Po.exX w3 (.slice none 0 0) 2 (Nat.le_refl _) (by rw [Po.ex_tot]; decide) Po.ex_fits hat
  refine (NCall.pre (args := [.agg [.int .i64 1, .int .i64 5, .int .i64 0, .int .i64 0, .sl 3 w3 2, .int .i64 0, .int .i64 0, .raw (.slice none 0 0)], .int .i64 2]) c rfl (MemFits.freeze (m := []))).fits fun r m' hr => ?_
  obtain ⟨G, pu, u, h1, h2, h3, rfl⟩ := hr
  exact ⟨r, _, rfl, (MemFits.noHeap _).trans (MemFits.pick [1, 0] (by decide) rfl), G, pu, u, addF.old.trans h1, Po.At.mono h1 hat, h2, h3, rfl⟩
theorem awake30_c (F : Heap) (hT : TabF F) : NCall Tryz.prog 7 [] [hpB F] fun r m => r = .bool true ∧ m = [hpB F] := by
  refine NCall.fits (K := fun r m => r = .bool true ∧ ∃ F', F.le F' ∧ MemFits m [hpB F']) ?_ fun r m' ⟨h1, F', h2, h3⟩ => ⟨r, _, rfl, h3.trans (MemFits.less h2 []), h1, rfl⟩
  have c2 := awake30_at F
  rw [Po.ex_spec2] at c2
  have t2 := fun G pu u (hG : F.le G) h => textF27_c G (hT.mono hG) (.mk 3 1 1 []) pu u (by decide +kernel) (by decide +kernel) h
  have t1 := fun G pu u (hG : F.le G) h => textF27_c G (hT.mono hG) (.mk 2 0 0 []) pu u (by decide +kernel) (by decide +kernel) h
  rw [Po.ex_text2] at t2
  rw [Po.ex_text1] at t1
  have c1 := fun G pu u h => at27_c _ G Po.exX pu u 1 (Nat.le_refl _) (by rw [Po.ex_tot]; decide) Po.ex_fits h
  rw [Po.ex_spec1] at c1
  have cc := fun G pu u h => cells27_c G Po.exX pu u (by rw [Po.ex_tot]; decide) h
  rw [Po.ex_cells] at cc
  have k3 := fun G pu u h => check27_c G ⟨3, [], []⟩ (.slice none 0 0) (.slice none 0 0) Po.exX pu u true ⟨RowF.nil, RowF.nil⟩ (by decide) (by decide) (by rw [Po.ex_tot]; decide) h (topo0_c G 3 (by decide))
  have k2 := fun G pu u h => check27_c G ⟨2, [], []⟩ (.slice none 0 0) (.slice none 0 0) Po.exX pu u true ⟨RowF.nil, RowF.nil⟩ (by decide) (by decide) (by rw [Po.ex_tot]; decide) h (topo0_c G 2 (by decide))
  rw [Po.ex_check3] at k3
  rw [Po.ex_check2] at k2
  have c2 : ∀ b3 : Nat, NCall Tryz.prog 18 [.agg [.int .i64 1, .int .i64 5, .int .i64 0, .int .i64 0, .sl 3 (.slice (some ⟨b3, 0, none⟩) 2 2) 2, .int .i64 0, .int .i64 0, .raw (.slice none 0 0)], .int .i64 2]
      [hpB F, ⟨⟨b3, 0, none⟩, [.int .i64 3, .int .i64 5, .int .i64 2, .raw (.slice none 0 0), .int .i64 3, .int .i64 1, .int .i64 1, .raw (.slice none 0 0)], .row (.slice (some ⟨b3, 0, none⟩) 2 2) 36 4 2⟩]
      fun r m => ∃ G pu u, F.le G ∧ Po.At G Po.exX (.slice (some ⟨b3, 0, none⟩) 2 2) (.slice none 0 0) ∧ Po.At G (.mk 1 (.mk 3 1 1 []) 0 0 []) pu u ∧ r = .agg [.int .i64 1, .int .i64 3, .int .i64 1, .int .i64 1, .hs pu 0, .int .i64 0, .int .i64 0, .hs u 0] ∧ m = [hpB G, hpB noHeap] := c2
  have t2 : ∀ G pu u (hG : F.le G) h, NCall Tryz.prog 34 [.agg [.int .i64 1, .int .i64 3, .int .i64 1, .int .i64 1, .hs pu 0, .int .i64 0, .int .i64 0, .hs u 0]] [hpB G] fun r m => r = .str [119, 104, 101, 110, 32, 100, 115, 116, 32, 61, 32, 49] ∧ m = [hpB G] := t2
  have t1 : ∀ G pu u (hG : F.le G) h, NCall Tryz.prog 34 [.agg [.int .i64 1, .int .i64 2, .int .i64 0, .int .i64 0, .hs pu 0, .int .i64 0, .int .i64 0, .hs u 0]] [hpB G] fun r m => r = .str [100, 114, 111, 112] ∧ m = [hpB G] := t1
  have c1 : ∀ G w h, NCall Tryz.prog 18 [.agg [.int .i64 1, .int .i64 5, .int .i64 0, .int .i64 0, .hs w 2, .int .i64 0, .int .i64 0, .hs (.slice none 0 0) 0], .int .i64 1] [hpB G] fun r m => ∃ F' pu u, G.le F' ∧ Po.At F' (.mk 1 (.mk 2 0 0 []) 0 0 []) pu u ∧ r = .agg [.int .i64 1, .int .i64 2, .int .i64 0, .int .i64 0, .hs pu 0, .int .i64 0, .int .i64 0, .hs u 0] ∧ m = [hpB F'] := fun G w h => c1 G w (.slice none 0 0) h
  have cc : ∀ G w h, NCall Tryz.prog 14 [.agg [.int .i64 1, .int .i64 5, .int .i64 0, .int .i64 0, .hs w 2, .int .i64 0, .int .i64 0, .hs (.slice none 0 0) 0]] [hpB G] fun r m => r = .int .i64 2 ∧ m = [hpB G] := fun G w h => cc G w (.slice none 0 0) h
  have k3 : ∀ G w h, NCall Tryz.prog 9 [.agg [.int .i64 3, .raw (.slice none 0 0), .raw (.slice none 0 0)], .agg [.int .i64 1, .int .i64 5, .int .i64 0, .int .i64 0, .hs w 2, .int .i64 0, .int .i64 0, .hs (.slice none 0 0) 0]] [hpB G] fun r m => r = .int .i64 0 ∧ m = [hpB G] := fun G w h => NCall.pre (k3 G w (.slice none 0 0) h) rfl (MemFits.eq rfl)
  have k2 : ∀ G w h, NCall Tryz.prog 9 [.agg [.int .i64 2, .raw (.slice none 0 0), .raw (.slice none 0 0)], .agg [.int .i64 1, .int .i64 5, .int .i64 0, .int .i64 0, .hs w 2, .int .i64 0, .int .i64 0, .hs (.slice none 0 0) 0]] [hpB G] fun r m => r = .int .i64 13 ∧ m = [hpB G] := fun G w h => NCall.pre (k2 G w (.slice none 0 0) h) rfl (MemFits.eq rfl)
  refine ncall_of Tryz.func7 rfl (by decide) ?_
  (repeat' (first|(with_reducible first|(refine hK _ _ ?_;clear hK K)|(refine hK _ ?_;clear hK K))|((with_reducible refine gO ?_);(first|((with_reducible first|refine z25 ?_|refine z26 ?_);intro K hK;(conv=>whnf))|(with_reducible refine z0 ?_)))|((first|((with_reducible refine gI ?_);((((with_reducible refine NIf.yes ?s ?_);case s=>(simp ;done)))))|((with_reducible refine gH ?_);((with_reducible refine NH.mk ?s ?_);case s=>(and_intros<;>first|with_reducible rfl|((with_reducible refine gOnes ?_);rfl)|((with_reducible refine gLen ?_);rfl)|omega)))|((with_reducible refine gC ?_);(first|((with_reducible refine NCall.isF 18 ?_);refine NCall.subw [0, 3] _ _ (c2 _) rfl (by decide) rfl ?_; rintro _ _ ⟨G, pu, u, hle, hx, hs, rfl, rfl⟩; refine ⟨Nat.le_of_ble_eq_true rfl, _, rfl, ?_⟩)|((with_reducible refine NCall.isF 34 ?_);refine NCall.subE [0] (t2 G pu u hle hs) rfl (by decide) rfl rfl ?_)|((with_reducible refine NCall.isF 18 ?_);refine NCall.subw [0] _ _ (c1 G _ hx) rfl (by decide) rfl ?_; rintro _ _ ⟨G2, pu2, u2, hle2, hs2, rfl, rfl⟩; refine ⟨Nat.le_of_ble_eq_true rfl, _, rfl, ?_⟩)|((with_reducible refine NCall.isF 34 ?_);refine NCall.subE [0] (t1 G2 pu2 u2 (hle.trans hle2) hs2) rfl (by decide) rfl rfl ?_)|((with_reducible refine NCall.isF 14 ?_);refine NCall.subE [0] (cc G2 _ (Po.At.mono hle2 hx)) rfl (by decide) rfl rfl ?_)|((with_reducible refine NCall.isF 9 ?_);refine NCall.subE [0] (k3 G2 _ (Po.At.mono hle2 hx)) rfl (by decide) rfl rfl ?_)|((with_reducible refine NCall.isF 9 ?_);refine NCall.subE [0] (k2 G2 _ (Po.At.mono hle2 hx)) rfl (by decide) rfl rfl ?_))))<;>(conv=>whnf))|((with_reducible refine gX ?_);((with_reducible first|refine z3 ?_|refine z4 ?_|refine z8 ?_)))|(with_reducible first|refine z1 ?_|refine z2 ?_)|((with_reducible refine gR ?_);((refine z31 rfl ?_);intro K hK;(conv=>whnf)))|((with_reducible refine gF ?_);((refine z33 rfl ?_);intro K hK;(conv=>whnf)))|((intro _;skip)<;>(conv=>whnf))))
  all_goals exact ⟨rfl, G2, hle.trans hle2, MemFits.pre 1 rfl⟩
theorem ccuts_c (F : Heap) (hT : TabF F) (x : Pd.At) (p : Pd.T) (u : Value) (hs : Pd.size p ≤ 1000000000) (hu : Pd.Row F u p.l) :
    NCall Tryz.prog 4 [.agg (Pd.cs p u), .int .i64 x.sw, .int .i64 x.port, .agg x.pk] [hpB F] fun r _ => r = .bool true := by
  have hok := hu.ok
  have cw := fun G (h : F.le G) => awake30_c G (hT.mono h)
  have rR := refright26_c F p u (by omega) hu
  by_cases hr : Pd.right p = true
  rotate_left
  · have hr : Pd.right p = false := by simpa using hr
    rw [hr] at rR
    have cw := cw F F.le_refl
    clear hu
    obtain ⟨k, a, v, l⟩ := p
    obtain ⟨sw, port, p0, p1, p2, p3⟩ := x
    simp only [pd_cs, Pd.T.l, Pd.At.pk] at *
    refine ncall_of Tryz.func4 rfl (by decide) ?_
    (repeat' (first|(with_reducible first|(refine hK _ _ ?_;clear hK K)|(refine hA ?_;clear hA hB A B)|(refine hK _ ?_;clear hK K))|((with_reducible refine gO ?_);(first|((with_reducible refine z25 ?_);intro K hK;(conv=>whnf))|(with_reducible refine z0 ?_)))|((first|((with_reducible refine gI ?_);(first|with_reducible refine NIf.not_ ?_|((with_reducible refine NIf.no ?s ?_);case s=>rfl)))|((with_reducible refine gH ?_);((with_reducible refine NH.mk ?s ?_);case s=>(and_intros<;>with_reducible rfl)))|((with_reducible refine gC ?_);(first|((with_reducible refine NCall.isF 20 ?_);refine NCall.subE [0] (rR) rfl (by decide) rfl rfl ?_)|((with_reducible refine NCall.isF 7 ?_);refine NCall.subE [0] (cw) rfl (by decide) rfl rfl ?_))))<;>(conv=>whnf))|((with_reducible refine gX ?_);(first|(with_reducible first|refine z3 ?_|refine z4 ?_|refine z8 ?_)|((with_reducible refine z29 ?_);intro A B hA hB;(conv=>whnf))))|(with_reducible first|refine z1 ?_|refine z2 ?_|refine z12 ?_)|((with_reducible refine gR ?_);((refine z31 rfl ?_);intro K hK;(conv=>whnf)))|((with_reducible refine gF ?_);((refine z33 rfl ?_);intro K hK;(conv=>whnf)))|((intro _;skip)<;>(conv=>whnf))))
    all_goals rfl
  rw [hr] at rR
  have hfit := Po.right_fits hr
  obtain ⟨hf2, hsz, _, hvl, _⟩ := Pd.cut_facts x _ p (Nat.le_refl _) hfit
  have hh := Pd.cut_hits x p hfit
  have hr2 := Pd.cut_right x p hr
  have cm := mine26_c _ F p u (Nat.le_refl _) (by omega) hu
  have cc := fun G u' (h : Pd.Row G u' p.l) => cut26_c _ G p u' x.sw (Nat.le_refl _) (by omega) hfit h
  have dc := fun G (h : F.le G) => refcut26_c _ G p u x.sw (Nat.le_refl _) (by omega) hfit (Pd.Row.mono h hu)
  have cH := fun G u' (h : Pd.Row G u' p.l) => Hits26_c G x p u' (by omega) h
  have hmono : ∀ G G' u', G.le G' → Pd.Row G u' p.l → Pd.Row G' u' p.l := fun G G' u' h h2 => Pd.Row.mono h h2
  generalize Pd.cut x.sw p = X at *
  have cT := fun G u' (h : Pd.Row G u' X.l) => theirs26_c _ G X u' (Nat.le_refl _) (by omega) h
  have cE := fun G u' w' (h : Pd.Row G u' X.l) (h2 : Pd.Row G w' X.l) => refsame26_c G _ X X u' w' (Nat.le_refl _) (by omega) (by omega) h h2
  rw [(Pd.same_eq X X).2 rfl] at cE
  have cH2 := fun G u' (h : Pd.Row G u' X.l) => Hits26_c G x.off X u' (by omega) h
  rw [hh] at cH2
  have cR := fun G u' (h : Pd.Row G u' X.l) => right26_c G X u' (by omega) h
  rw [hr2] at cR
  have cV := fun G u' (h : Pd.Row G u' X.l) => (Values26_c G X u' 5 (by omega) (by omega) h).mono (K' := fun r m => ∃ F' v, G.le F' ∧ SlOk v 0 ∧ r = .hs v 0 ∧ m = [hpB F']) fun r m ⟨F', v, h1, h2, h3, h4⟩ => by
    have e := Pd.pvalues_nil hvl
    rw [e] at h2 h3
    exact ⟨F', v, h1, h2.ok, h3, h4⟩
  have hmonoX : ∀ G G' u', G.le G' → Pd.Row G u' X.l → Pd.Row G' u' X.l := fun G G' u' h h2 => Pd.Row.mono h h2
  generalize Pd.hits x p = bh at *
  clear hu hr hfit hf2 hsz hvl hh hr2 hs
  obtain ⟨k, a, v, l⟩ := p
  obtain ⟨k3, a3, v3, l3⟩ := X
  obtain ⟨sw, port, p0, p1, p2, p3⟩ := x
  simp only [pd_cs, Pd.Lays, Pd.T.l, Pd.At.pk, Pd.At.off] at *
  refine ncall_of Tryz.func4 rfl (by decide) ?_
  (repeat' (first|(with_reducible first|(refine hK _ _ ?_;clear hK K)|(refine hB ?_;clear hA hB A B)|(refine hK _ ?_;clear hK K))|((with_reducible refine gO ?_);(first|((with_reducible refine z25 ?_);intro K hK;(conv=>whnf))|(with_reducible refine z0 ?_)))|((first|((with_reducible refine gI ?_);(first|(((with_reducible refine NIf.yes ?s ?_);case s=>(simp ;done)))|(((with_reducible refine NIf.no ?s ?_);case s=>(simp ;done)))))|((with_reducible refine gH ?_);((with_reducible refine NH.mk ?s ?_);case s=>(and_intros<;>first|with_reducible rfl|((with_reducible refine gOnes ?_);rfl)|((with_reducible refine gLen ?_);rfl)|((with_reducible refine gKept ?_);exact rfl)|omega|rfl)))|((with_reducible refine gC ?_);(first|((with_reducible refine NCall.isF 20 ?_);refine NCall.subE [0] (rR) rfl (by decide) rfl rfl ?_)|((with_reducible refine NCall.isF 21 ?_);refine NCall.subw [0] _ _ (cm) rfl (by decide) rfl ?_; rintro _ _ ⟨F1, u1, hle1, hu1, rfl, rfl⟩; refine ⟨Nat.le_of_ble_eq_true rfl, _, rfl, ?_⟩)|((with_reducible refine NCall.isF 22 ?_);refine NCall.subw [0] _ _ (cc F1 u1 hu1) rfl (by decide) rfl ?_; rintro _ _ ⟨F2, u2, hle2, hu2, rfl, rfl⟩; refine ⟨Nat.le_of_ble_eq_true rfl, _, rfl, ?_⟩)|((with_reducible refine NCall.isF 24 ?_);refine NCall.subw [0] _ _ (cT F2 u2 hu2) rfl (by decide) rfl ?_; rintro _ _ ⟨F3, u3, hle3, hu3, rfl, rfl⟩; refine ⟨Nat.le_of_ble_eq_true rfl, _, rfl, ?_⟩)|((with_reducible refine NCall.isF 25 ?_);refine NCall.subw [0] _ _ (dc F3 ((hle1.trans hle2).trans hle3)) rfl (by decide) rfl ?_; rintro _ _ ⟨F4, u4, hle4, hu4, rfl, rfl⟩; refine ⟨Nat.le_of_ble_eq_true rfl, _, rfl, ?_⟩)|((with_reducible refine NCall.isF 23 ?_);refine NCall.subE [0] (cE F4 u3 u4 (hmonoX _ _ _ hle4 hu3) hu4) rfl (by decide) rfl rfl ?_)|((with_reducible refine NCall.isF 26 ?_);refine NCall.subE [0] (cH2 F4 u2 (hmonoX _ _ _ (hle3.trans hle4) hu2)) rfl (by decide) rfl rfl ?_)|((with_reducible refine NCall.isF 26 ?_);refine NCall.subE [0] (cH F4 u1 (hmono _ _ _ ((hle2.trans hle3).trans hle4) hu1)) rfl (by decide) rfl rfl ?_)|((with_reducible refine NCall.isF 27 ?_);refine NCall.subE [0] (cR F4 u2 (hmonoX _ _ _ (hle3.trans hle4) hu2)) rfl (by decide) rfl rfl ?_)|((with_reducible refine NCall.isF 28 ?_);refine NCall.subw [0] _ _ (cV F4 u2 (hmonoX _ _ _ (hle3.trans hle4) hu2)) rfl (by decide) rfl ?_; rintro _ _ ⟨F5, v5, hle5, hok5, rfl, rfl⟩; refine ⟨Nat.le_of_ble_eq_true rfl, _, rfl, ?_⟩)|((with_reducible refine NCall.isF 7 ?_);refine NCall.subE [0] (cw F5 ((((hle1.trans hle2).trans hle3).trans hle4).trans hle5)) rfl (by decide) rfl rfl ?_))))<;>(conv=>whnf))|((with_reducible refine gNRK ?_);((with_reducible refine st_ordSout ?_)))|((with_reducible refine gNOK ?_);(first|(refine st_ordK1 rfl (by kernel_rfl) rfl ?_; intro K hK; (conv=>whnf))|(refine st_ordK1g rfl (by kernel_rfl) rfl ?_; intro K hK; (conv=>whnf))|(refine st_ordK0 rfl (by kernel_rfl) ?_)|(refine st_ordKA rfl rfl (by kernel_rfl) (by intro h; cases h) ?_)))|((with_reducible refine gNEK ?_);(first|(refine st_eachK ?_ ?_; (intro K hK; (conv=>whnf)))|(refine st_eachKg rfl ?_ ?_; (intro K hK; (conv=>whnf)))|exact st_eachK0))|((with_reducible refine gX ?_);(first|(refine st_orderS [0] rfl rfl (by kernel_rfl) _ rfl ?_)|(with_reducible first|refine z3 ?_|refine z4 ?_|refine z6 ?_|refine z8 ?_)|((with_reducible refine z29 ?_);intro A B hA hB;(conv=>whnf))))|(with_reducible first|refine z1 ?_|refine z2 ?_)|((with_reducible refine gR ?_);((refine z31 rfl ?_);intro K hK;(conv=>whnf)))|((with_reducible refine gF ?_);((refine z33 rfl ?_);intro K hK;(conv=>whnf)))|((intro _;skip)<;>(conv=>whnf))))
  all_goals rfl
end Go.Proofs.YtpkjnmddembkjaaGreatDoor

