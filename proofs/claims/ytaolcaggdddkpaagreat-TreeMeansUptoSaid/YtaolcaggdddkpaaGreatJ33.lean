/-
  Trees: the cases of a policy at a switch; Policies: the numbers that a field is asked for, and set to, by the document.
-/
import Derived.Test.YtaolcaggdddkpaaGreatJ26
import Derived.Test.YtaolcaggdddkpaaGreatJ32
import Derived.Test.YtaolcaggdddkpaaGreatJ24
import Derived.Test.YtaolcaggdddkpaaGreatJ29
namespace Go.Proofs.YtaolcaggdddkpaaGreat
open Go.Sx
set_option maxRecDepth 20000
set_option linter.unusedSimpArgs false
set_option linter.unusedVariables false
set_option maxHeartbeats 4000000
set_option linter.unusedVariables false
namespace Tr
theorem cells_pre {F : Heap} {a : Addr} : ∀ (l l2 : List Value) (o : Nat), CellsF F a o (l ++ l2) → CellsF F a o l
  | [], _, _, _ => trivial
  | _ :: l, l2, o, h => ⟨h.1, cells_pre l l2 (o + 1) h.2⟩
theorem Mk.of {G : Heap} {a : Addr} {y : Po.T} {sw : Int} {pu u v0 v1 v2 v3 v4 : Value} (hp : Po.At G y pu u) (h0 : Srt.Row G v0 (Po.values 0 y)) (h1 : Srt.Row G v1 (Po.values 1 y)) (h2 : Srt.Row G v2 (Po.values 2 y)) (h3 : Srt.Row G v3 (Po.values 3 y)) (h4 : Srt.Row G v4 (Po.values 4 y))
    (hc : CellsF G a 0 (denL (Po.cs y pu u ++ [.int .i64 sw] ++ [.hs v0 (Po.values 0 y).length, .hs v1 (Po.values 1 y).length, .hs v2 (Po.values 2 y).length, .hs v3 (Po.values 3 y).length, .hs v4 (Po.values 4 y).length]))) : Mk G a y sw pu u := by
  refine ⟨hp, ?_, fun f hf => ?_⟩
  · rw [denL_append] at hc
    exact cells_pre _ _ _ hc
  · obtain ⟨_, _, _, _, _, _, _, _, _, d0, d1, d2, d3, d4, _⟩ := hc
    have key : ∀ (v : Value) (l : List Int) (k : Nat), Srt.Row G v l → G.c (a.add k) (AV.hs v l.length).den → ∃ A cap, Srt.Row G (.slice A l.length cap) l ∧ G.c (a.add k) (.slice A l.length cap) := fun v l k hv hk => by
      obtain ⟨A, cap, rfl, _, _⟩ := hv.ok
      exact ⟨A, cap, hv, hk⟩
    rcases ok5 hf with rfl | rfl | rfl | rfl | rfl
    · exact key v0 _ 9 h0 d0
    · exact key v1 _ 10 h1 d1
    · exact key v2 _ 11 h2 d2
    · exact key v3 _ 12 h3 d3
    · exact key v4 _ 13 h4 d4
end Tr
theorem order31_c : NCall Tryz.prog 28 [] [] fun r m => ∃ v, r = .sl 0 v 5 ∧ m = [⟨addrOf v, [.int .i64 4, .int .i64 0, .int .i64 1, .int .i64 2, .int .i64 3], .row v 3 1 5⟩] := by
  refine ncall_of Tryz.func28 rfl (by decide) ?_
  (repeat' (first|(with_reducible first|(refine hK _ _ ?_;clear hK K)|(refine hK _ ?_;clear hK K))|((with_reducible refine gO ?_);(first|((with_reducible refine z25 ?_);intro K hK;(conv=>whnf))|(with_reducible refine z0 ?_)))|((((with_reducible refine gH ?_);((with_reducible refine NH.mk ?s ?_);case s=>(and_intros<;>first|((with_reducible refine gLen ?_);rfl)|omega))))<;>(conv=>whnf))|((with_reducible refine gX ?_);((with_reducible first|refine z3 ?_|refine z4 ?_|refine z8 ?_)))|(with_reducible first|refine z1 ?_|refine z2 ?_)|((with_reducible refine gR ?_);((refine z31 rfl ?_);intro K hK;(conv=>whnf)))|((with_reducible refine gF ?_);((refine z33 rfl ?_);intro K hK;(conv=>whnf)))|((intro _;skip)<;>(conv=>whnf))))
  all_goals exact ⟨_, rfl, rfl⟩
theorem cases31_k (G : Heap) (y : Po.T) (sw : Int) (pu u : Value) (hs : Po.tot y ≤ 4611686018427387904) (hf : Po.fits y = true) (hl : ∀ s, (Po.runs sw y s).length ≤ 1000) (hc : Tr.cnt y Tr.order ≤ 1000000) (v0 v1 v2 v3 v4 : Value) (hp : Po.At G y pu u) (h0 : Srt.Row G v0 (Po.values 0 y)) (h1 : Srt.Row G v1 (Po.values 1 y)) (h2 : Srt.Row G v2 (Po.values 2 y)) (h3 : Srt.Row G v3 (Po.values 3 y)) (h4 : Srt.Row G v4 (Po.values 4 y)) (b : Nat) (w : Value) :
    NCall Tryz.prog 27 [.ptr 1 ⟨b, 0, none⟩ 0, .sl 2 w 5, .agg [.int .i64 (-1), .int .i64 (-1), .int .i64 (-1), .int .i64 (-1), .int .i64 (-1), .raw (.slice none 0 0)]]
      [hpB G, ⟨⟨b, 0, none⟩, Po.cs y pu u ++ [.int .i64 sw] ++ [.hs v0 (Po.values 0 y).length, .hs v1 (Po.values 1 y).length, .hs v2 (Po.values 2 y).length, .hs v3 (Po.values 3 y).length, .hs v4 (Po.values 4 y).length], .var 70⟩, ⟨addrOf w, [.int .i64 4, .int .i64 0, .int .i64 1, .int .i64 2, .int .i64 3], .row w 3 1 5⟩]
      fun r m => ∃ F' v, G.le F' ∧ Tr.Row F' v (Tr.cases sw y Tr.order Tr.start) ∧ r = .hs v (Tr.cases sw y Tr.order Tr.start).length ∧ m = [hpB F', hpB noHeap, hpB noHeap] := by
  have hord : ∀ f ∈ Tr.order, Tr.ok f := fun f h => Tr.mem_order.1 h
  rw [NCall_iff]
  refine ⟨Go.Sx.enters_of Tryz.func27 rfl (by decide), fun W hW => (NCall_iff.1 ?_).2 W hW⟩
  have hok := (hW.row (List.mem_cons_of_mem _ (List.mem_cons_of_mem _ (List.mem_cons_self ..)))).1
  have hrow := rowF_new (F := addF G ⟨b, 0, none⟩ (denL (Po.cs y pu u ++ [.int .i64 sw] ++ [.hs v0 (Po.values 0 y).length, .hs v1 (Po.values 1 y).length, .hs v2 (Po.values 2 y).length, .hs v3 (Po.values 3 y).length, .hs v4 (Po.values 4 y).length]))) (sz := 1) (enc := fun x : Int => [.int .i64 x]) (l := Tr.order) (vs := denL [.int .i64 4, .int .i64 0, .int .i64 1, .int .i64 2, .int .i64 3]) hok rfl (fun x _ => rfl)
  have hm : Tr.Mk (addF G ⟨b, 0, none⟩ (denL (Po.cs y pu u ++ [.int .i64 sw] ++ [.hs v0 (Po.values 0 y).length, .hs v1 (Po.values 1 y).length, .hs v2 (Po.values 2 y).length, .hs v3 (Po.values 3 y).length, .hs v4 (Po.values 4 y).length]))) ⟨b, 0, none⟩ y sw pu u :=
    Tr.Mk.of (hp.mono addF.old) (RowF.mono addF.old (fun _ _ h => h) h0) (RowF.mono addF.old (fun _ _ h => h) h1) (RowF.mono addF.old (fun _ _ h => h) h2) (RowF.mono addF.old (fun _ _ h => h) h3) (RowF.mono addF.old (fun _ _ h => h) h4) addF.new
  have c := cases31_c y sw ⟨b, 0, none⟩ pu u hs hf hl Tr.order _ Tr.start w hord hc hrow (hm.mono addF.old)
  refine (NCall.pre (args := [.ptr 1 ⟨b, 0, none⟩ 0, .sl 2 w 5, .agg [.int .i64 (-1), .int .i64 (-1), .int .i64 (-1), .int .i64 (-1), .int .i64 (-1), .raw (.slice none 0 0)]]) (mL := [hpB _]) c rfl ?_).fits fun r m' hr => ?_
  · exact (MemFits.freezeVar (m := [_])).trans (MemFits.freeze (m := []))
  · obtain ⟨F', v, h1, h2, rfl, rfl⟩ := hr
    exact ⟨_, _, rfl, ((MemFits.noHeap _).trans (MemFits.noHeap _)).trans (MemFits.pick [2, 0, 1] (by decide) rfl), F', v, (addF.old.trans addF.old).trans h1, h2, rfl, rfl⟩
/-- The cases of any policy. -/
def Tr.ans (sw : Int) (x : Po.T) : List Tr.C × Int := if Po.right x = true then (Tr.all sw x, 0) else ([], 17)
theorem Cases31_c (F : Heap) (x : Po.T) (pu u : Value) (sw : Int) (hs : Po.tot x ≤ 1000000000) (hx : Po.At F x pu u) (hce : Po.right x = true → Po.cells (Po.spec sw x) ≤ 4096) (hc : Po.right x = true → Tr.cnt (Po.spec sw x) Tr.order ≤ 1000000) :
    NCall Tryz.prog 8 [.agg (Po.cs x pu u), .int .i64 sw] [hpB F] fun r m => ∃ F' v, F.le F' ∧ Tr.Row F' v (Tr.ans sw x).1 ∧ r = .tup [.hs v (Tr.ans sw x).1.length, .int .i64 (Tr.ans sw x).2] ∧ m = [hpB F'] := by
  have hok := hx.l.ok
  have hpok := hx.p.ok
  have cR := right27_c F x pu u (by omega) hx
  refine NCall.fits (K := fun r m => ∃ F' v, F.le F' ∧ Tr.Row F' v (Tr.ans sw x).1 ∧ r.den = (AV.tup [.hs v (Tr.ans sw x).1.length, .int .i64 (Tr.ans sw x).2]).den ∧ MemFits m [hpB F']) ?_ fun r m' ⟨F', v, h1, h2, h3, h4⟩ => ⟨_, _, h3.symm, h4, F', v, h1, h2, rfl, rfl⟩
  unfold Tr.ans
  by_cases hr : Po.right x = true
  rotate_left
  · have hr : Po.right x = false := by simpa using hr
    rw [hr] at cR ⊢
    clear hx hce hc
    obtain ⟨k, ⟨pk, pf, pv, pl⟩, a, v, l⟩ := x
    simp only [po_cs, Po.T.l, Po.T.p, Pd.T.k, Pd.T.f, Pd.T.v, Pd.T.l] at *
    refine ncall_of Tryz.func8 rfl (by decide) ?_
    (repeat' (first|(with_reducible first|(refine hK _ _ ?_;clear hK K)|(refine hA ?_;clear hA hB A B)|(refine hK _ ?_;clear hK K))|((with_reducible refine gO ?_);(first|((with_reducible refine z25 ?_);intro K hK;(conv=>whnf))|(with_reducible refine z0 ?_)))|((first|((with_reducible refine gI ?_);(first|with_reducible refine NIf.not_ ?_|((with_reducible refine NIf.no ?s ?_);case s=>rfl)))|((with_reducible refine gH ?_);((with_reducible refine NH.mk ?s ?_);case s=>(and_intros<;>with_reducible rfl)))|((with_reducible refine gC ?_);((with_reducible refine NCall.isF 23 ?_);refine NCall.subE [0] (cR) rfl (by decide) rfl rfl ?_)))<;>(conv=>whnf))|((with_reducible refine gX ?_);(first|(with_reducible first|refine z3 ?_|refine z4 ?_|refine z8 ?_)|((with_reducible refine z29 ?_);intro A B hA hB;(conv=>whnf))))|(with_reducible first|refine z1 ?_|refine z2 ?_|refine z12 ?_)|((with_reducible refine gR ?_);((refine z31 rfl ?_);intro K hK;(conv=>whnf)))|((with_reducible refine gF ?_);((refine z33 rfl ?_);intro K hK;(conv=>whnf)))|((intro _;skip)<;>(conv=>whnf))))
    all_goals exact ⟨F, .slice none 0 0, F.le_refl, RowF.nil, rfl, MemFits.pre 1 rfl⟩
  rw [hr] at cR
  rw [if_pos hr]
  have hf := Po.right_fits' hr
  have hyf := Po.spec_fits sw x hf
  have hyt := Po.spec_tot sw x hf
  have hyr := Po.spec_right sw x hr
  have hl : ∀ s, (Po.runs sw (Po.spec sw x) s).length ≤ 1000 := fun s => Nat.le_trans (Po.runs_64 sw _ hyr s) (by decide)
  have cA := at27_c _ F x pu u sw (Nat.le_refl _) (by omega) hf hx
  have hce := hce hr
  have hc := hc hr
  unfold Tr.all
  clear hx hf hr hyr
  generalize Po.spec sw x = y at *
  have cC := fun G pu u (h : Po.At G y pu u) => cells27_c G y pu u (by omega) h
  have cV := fun G pu u (h : Po.At G y pu u) f (hf : -9223372036854775808 ≤ f ∧ f ≤ 9223372036854775807) => Values27_c G y pu u f hf (by omega) h
  have hmo := fun G G' pu u (h : Heap.le G G') (h2 : Po.At G y pu u) => Po.At.mono h h2
  have hlen := fun f => Po.values_len f y
  have kC := fun G pu u v0 v1 v2 v3 v4 hp h0 h1 h2 h3 h4 b w => cases31_k G y sw pu u (by omega) hyf hl hc v0 v1 v2 v3 v4 hp h0 h1 h2 h3 h4 b w
  generalize Tr.cases sw y Tr.order Tr.start = C at *
  clear hl hc hyf
  generalize hv0 : Po.values 0 y = V0 at *
  generalize hv1 : Po.values 1 y = V1 at *
  generalize hv2 : Po.values 2 y = V2 at *
  generalize hv3 : Po.values 3 y = V3 at *
  generalize hv4 : Po.values 4 y = V4 at *
  have cV0 := fun G pu u h => (hv0 ▸ cV G pu u h 0 (by omega) : NCall Tryz.prog 26 [.agg (Po.cs y pu u), .int .i64 0] [hpB G] fun r m => Srt.Lays G V0 r m)
  have cV1 := fun G pu u h => (hv1 ▸ cV G pu u h 1 (by omega) : NCall Tryz.prog 26 [.agg (Po.cs y pu u), .int .i64 1] [hpB G] fun r m => Srt.Lays G V1 r m)
  have cV2 := fun G pu u h => (hv2 ▸ cV G pu u h 2 (by omega) : NCall Tryz.prog 26 [.agg (Po.cs y pu u), .int .i64 2] [hpB G] fun r m => Srt.Lays G V2 r m)
  have cV3 := fun G pu u h => (hv3 ▸ cV G pu u h 3 (by omega) : NCall Tryz.prog 26 [.agg (Po.cs y pu u), .int .i64 3] [hpB G] fun r m => Srt.Lays G V3 r m)
  have cV4 := fun G pu u h => (hv4 ▸ cV G pu u h 4 (by omega) : NCall Tryz.prog 26 [.agg (Po.cs y pu u), .int .i64 4] [hpB G] fun r m => Srt.Lays G V4 r m)
  generalize Po.cells y = nc at *
  have hro := fun (G G' : Heap) (v : Value) (l : List Int) (h : G.le G') (h2 : Srt.Row G v l) => (RowF.mono h (fun _ _ h => h) h2 : Srt.Row G' v l)
  have hAo := fun G pu u (h : Po.At G y pu u) => h.l.ok
  have hAp := fun G pu u (h : Po.At G y pu u) => h.p.ok
  clear cV hlen hv0 hv1 hv2 hv3 hv4
  obtain ⟨k, ⟨pk, pf, pv, pl⟩, a, v, l⟩ := x
  obtain ⟨yk, ⟨ypk, ypf, ypv, ypl⟩, yf, yv, yl⟩ := y
  simp only [Po.cs, Po.Lays, Srt.Lays, Po.T.k, Po.T.l, Po.T.p, Po.T.f, Po.T.v, Pd.T.k, Pd.T.f, Pd.T.v, Pd.T.l, List.cons_append, List.nil_append] at *
  refine ncall_of Tryz.func8 rfl (by decide) ?_
  (repeat' (first|(with_reducible first|(refine hK _ _ ?_;clear hK K)|(refine hA ?_;clear hA hB A B)|(refine hB ?_;clear hA hB A B)|(refine hK _ ?_;clear hK K))|((with_reducible refine gO ?_);(first|((with_reducible refine z25 ?_);intro K hK;(conv=>whnf))|(with_reducible refine z0 ?_)))|((first|((with_reducible refine gV ?_);(((with_reducible refine NV.i64 ?s ?_);case s=>omega)))|((with_reducible refine gI ?_);(first|with_reducible refine NIf.not_ ?_|((with_reducible refine NIf.decY ?s ?_);case s=>omega)|((with_reducible refine NIf.decN ?s ?_);case s=>omega)|((with_reducible refine NIf.yes ?s ?_);case s=>rfl)))|((with_reducible refine gN ?_);(with_reducible first|refine NN.lit ?_|refine NN.a3 ?_|refine NN.a5 ?_|refine NN.keep ?_))|((with_reducible refine gH ?_);((with_reducible refine NH.mk ?s ?_);case s=>(and_intros<;>first|with_reducible rfl|((with_reducible refine gOnes ?_);rfl)|((with_reducible refine gLen ?_);rfl)|((with_reducible refine gKept ?_);exact rfl)|omega)))|((with_reducible refine gC ?_);(first|((with_reducible refine NCall.isF 23 ?_);refine NCall.subE [0] (cR) rfl (by decide) rfl rfl ?_)|((with_reducible refine NCall.isF 24 ?_);refine NCall.subw [0] _ _ (cA) rfl (by decide) rfl ?_; rintro _ _ ⟨F1, pu1, u1, hle1, hA1, rfl, rfl⟩; refine ⟨Nat.le_of_ble_eq_true rfl, _, rfl, ?_⟩)|((with_reducible refine NCall.isF 25 ?_);refine NCall.subE [0] (cC F1 pu1 u1 hA1) rfl (by decide) rfl rfl ?_)|((with_reducible refine NCall.isF 26 ?_);refine NCall.subw [0] _ _ (cV0 F1 pu1 u1 hA1) rfl (by decide) rfl ?_; rintro _ _ ⟨G0, w0, hl0, hw0, rfl, rfl⟩; refine ⟨Nat.le_of_ble_eq_true rfl, _, rfl, ?_⟩)|((with_reducible refine NCall.isF 26 ?_);refine NCall.subw [0] _ _ (cV1 G0 pu1 u1 (hmo _ _ _ _ hl0 hA1)) rfl (by decide) rfl ?_; rintro _ _ ⟨G1, w1, hl1, hw1, rfl, rfl⟩; refine ⟨Nat.le_of_ble_eq_true rfl, _, rfl, ?_⟩)|((with_reducible refine NCall.isF 26 ?_);refine NCall.subw [0] _ _ (cV2 G1 pu1 u1 (hmo _ _ _ _ (hl0.trans hl1) hA1)) rfl (by decide) rfl ?_; rintro _ _ ⟨G2, w2, hl2, hw2, rfl, rfl⟩; refine ⟨Nat.le_of_ble_eq_true rfl, _, rfl, ?_⟩)|((with_reducible refine NCall.isF 26 ?_);refine NCall.subw [0] _ _ (cV3 G2 pu1 u1 (hmo _ _ _ _ ((hl0.trans hl1).trans hl2) hA1)) rfl (by decide) rfl ?_; rintro _ _ ⟨G3, w3, hl3, hw3, rfl, rfl⟩; refine ⟨Nat.le_of_ble_eq_true rfl, _, rfl, ?_⟩)|((with_reducible refine NCall.isF 26 ?_);refine NCall.subw [0] _ _ (cV4 G3 pu1 u1 (hmo _ _ _ _ (((hl0.trans hl1).trans hl2).trans hl3) hA1)) rfl (by decide) rfl ?_; rintro _ _ ⟨G4, w4, hl4, hw4, rfl, rfl⟩; refine ⟨Nat.le_of_ble_eq_true rfl, _, rfl, ?_⟩)|((with_reducible refine NCall.isF 28 ?_);refine NCall.subw [] _ _ (order31_c) rfl (by decide) rfl ?_; rintro _ _ ⟨vo, rfl, rfl⟩; refine ⟨Nat.le_of_ble_eq_true rfl, .sl 3 vo 5, rfl, ?_⟩)|((with_reducible refine NCall.isF 27 ?_);refine NCall.subw [0, 2, 3] _ _ (kC G4 pu1 u1 w0 w1 w2 w3 w4 (hmo _ _ _ _ ((((hl0.trans hl1).trans hl2).trans hl3).trans hl4) hA1) (hro _ _ _ _ (((hl1.trans hl2).trans hl3).trans hl4) hw0) (hro _ _ _ _ ((hl2.trans hl3).trans hl4) hw1) (hro _ _ _ _ (hl3.trans hl4) hw2) (hro _ _ _ _ hl4 hw3) hw4 _ _) rfl (by decide) rfl ?_; rintro _ _ ⟨G5, v5, hl5, hw5, rfl, rfl⟩; refine ⟨Nat.le_of_ble_eq_true rfl, _, rfl, ?_⟩))))<;>(conv=>whnf))|((with_reducible refine gNRK ?_);((with_reducible refine st_ordSout ?_)))|((with_reducible refine gNOK ?_);(first|(refine st_ordK1 rfl (by kernel_rfl) rfl ?_; intro K hK; (conv=>whnf))|(refine st_ordK0 rfl (by kernel_rfl) ?_)|(refine st_ordKA rfl rfl (by kernel_rfl) (by intro h; cases h) ?_)))|((with_reducible refine gNEK ?_);(first|(refine st_eachK ?_ ?_; (intro K hK; (conv=>whnf)))|exact st_eachK0))|((with_reducible refine gX ?_);(first|(with_reducible refine st_rounds 6 ?_)|(refine st_orderS [0, 2] rfl rfl (by kernel_rfl) _ rfl ?_)|(with_reducible first|refine z3 ?_|refine z4 ?_|refine z5 ?_|refine z6 ?_|refine z7 ?_|refine z8 ?_)|((with_reducible refine z29 ?_);intro A B hA hB;(conv=>whnf))))|(with_reducible first|refine z1 ?_|refine z2 ?_|refine z9 ?_|refine z10 ?_|refine z11 ?_|refine z21 ?_|refine z22 ?_)|((with_reducible refine gR ?_);((refine z31 rfl ?_);intro K hK;(conv=>whnf)))|((with_reducible refine gF ?_);((refine z33 rfl ?_);intro K hK;(conv=>whnf)))|((intro _;skip)<;>(conv=>whnf))))
  all_goals exact ⟨G5, v5, ((((hle1.trans hl0).trans hl1).trans hl2).trans hl3).trans (hl4.trans hl5), hw5, rfl, MemFits.pre 1 rfl⟩
end Go.Proofs.YtaolcaggdddkpaaGreat
namespace Go.Proofs.YtaolcaggdddkpaaGreat
open Go.Sx
set_option maxRecDepth 20000
set_option linter.unusedSimpArgs false
set_option linter.unusedVariables false
set_option maxHeartbeats 4000000
set_option linter.unusedVariables false
theorem refvalues27_c (F : Heap) (x : Po.T) (pu u : Value) (f : Int) (hf : -9223372036854775808 ≤ f ∧ f ≤ 9223372036854775807) (hs : Po.tot x ≤ 4611686018427387904) (hx : Po.At F x pu u) :
    NCall Tryz.prog 21 [.agg (Po.cs x pu u), .int .i64 f] [hpB F] fun r m => Srt.Lays F (Po.asked f x ((Pd.top f).toNat + 1)) r m := by
  refine Srt.know (t := 3) ?_
  have hok := hx.l.ok
  have hpok := hx.p.ok
  have ctop := reftop26_c f
  have ht0 := Pd.top_nonneg f
  have ht1 : Pd.top f ≤ 255 := by unfold Pd.top; split <;> first | omega | (split <;> first | omega | (split <;> omega))
  have ca : ∀ i : Nat, NCall Tryz.prog 48 [.agg (Po.cs x pu u), .int .i64 f, .int .i64 i] [hpB F] fun r m => r = .bool (decide ((i : Int) ∈ Po.vals f x)) ∧ m = [hpB F] := fun i => has27_c F f i hf _ x pu u (Nat.le_refl _) hs hx
  have hnx := Po.asked_next f x
  have hln := Po.asked_len f x
  have h0 : Po.asked f x 0 = [] := rfl
  generalize Pd.top f = T at *
  generalize hE : Po.vals f x = E at *
  generalize hW : Po.asked f x = W at *
  clear hs hx hE hW
  obtain ⟨k, ⟨pk, pf, pv, pl⟩, a, v, l⟩ := x
  simp only [po_cs, Po.T.l, Po.T.p, Pd.T.k, Pd.T.f, Pd.T.v, Pd.T.l] at *
  refine ncall_of Tryz.func21 rfl (by decide) ?_
  (repeat' (first|(with_reducible first|(refine hK _ _ ?_;clear hK K)|(refine hK _ ?_;clear hK K))|((with_reducible refine gO ?_);(first|((with_reducible refine z25 ?_);intro K hK;(conv=>whnf))|(with_reducible refine z0 ?_)))|((with_reducible refine gX ?_);((with_reducible first|refine z3 ?_|refine z4 ?_|refine z5 ?_)))|(with_reducible first|refine z1 ?_|refine z2 ?_)|((with_reducible refine gF ?_);((refine z33 rfl ?_);intro K hK;(conv=>whnf)))|((intro _;skip)<;>(conv=>whnf))))
  refine st_auto (α := Value × Nat) (fun (w, i) => i ≤ T.toNat + 1) (fun (w, i) => [.keep, .keep, .keep, .keep, .keep, .set (.sl 2 w (W i).length), .set (.int .i64 i), .drop, .drop, .drop, .drop, .drop, .drop, .drop, .drop, .drop, .drop, .drop, .drop, .drop, .drop, .keep]) (fun (w, i) => [.keep, .keep, .set ⟨addrOf w, Srt.av (W i), .row w 3 1 (W i).length⟩]) (fun (w, i) => T.toNat + 1 - i) (.slice none 0 0, 0) (Nat.zero_le _) ?_ ((MemFits.nilRow _ 3 1).trans (MemFits.congr (by simp only [autoM, h0]; rfl))) ?_
  · dsimp only
    rw [h0]
    repeat (first|exact FitsSl.nil|refine FitsSl.any ?_|refine FitsSl.cons (Fit1.int (by first | rfl | omega)) ?_|refine FitsSl.cons (Fit1.same (by intro h; cases h) (by with_reducible rfl)) ?_|refine FitsSl.cons Fit1.nil_sl ?_)
  (intro ⟨w, i⟩ hi; intro K hK; (conv=>whnf); refine hK _ _ ?_; clear hK K)
  dsimp only
  have hi : i ≤ T.toNat + 1 := hi
  have hl := hln i
  by_cases hlt : (i : Int) ≤ T
  · have c := ca i
    have hn := hnx i
    by_cases hE : (i : Int) ∈ E
    · rw [decide_eq_true hE] at c
      rw [if_pos hE] at hn
      have hav := Srt.av_append (W i) [(i : Int)]
      have hal := Srt.av_len (W i)
      rw [← hn] at hav
      have hlen : (W (i + 1)).length = (W i).length + 1 := by rw [hn, List.length_append]; rfl
      generalize Srt.av (W i) = B at *
      clear ca hnx hln
      (repeat' (first|(with_reducible first|(refine hK _ _ ?_;clear hK K)|(refine hA ?_;clear hA hB A B))|((with_reducible refine gO ?_);(first|((with_reducible refine z25 ?_);intro K hK;(conv=>whnf))|(with_reducible refine z0 ?_)))|((first|((with_reducible refine gV ?_);(((with_reducible refine NV.i64 ?s ?_);case s=>omega)))|((with_reducible refine gI ?_);(first|((with_reducible refine NIf.decY ?s ?_);case s=>assumption)|((with_reducible refine NIf.yes ?s ?_);case s=>rfl)))|((with_reducible refine gH ?_);((with_reducible refine NH.mk ?s ?_);case s=>(and_intros<;>first|with_reducible rfl|((with_reducible refine gOnes ?_);rfl)|((with_reducible refine gLen ?_);rfl)|omega)))|((with_reducible refine gC ?_);(first|((with_reducible refine NCall.isF 47 ?_);refine NCall.pureE (ctop) ?_)|((with_reducible refine NCall.isF 48 ?_);refine NCall.subE [0] (c) rfl (by decide) rfl rfl ?_))))<;>(conv=>whnf))|((with_reducible refine gX ?_);(first|(with_reducible first|refine z3 ?_|refine z4 ?_|refine z5 ?_|refine z6 ?_)|((with_reducible refine z29 ?_);intro A B hA hB;(conv=>whnf))))|(with_reducible first|refine z1 ?_|refine z2 ?_|refine z9 ?_)|((intro _;skip)<;>(conv=>whnf))))
      all_goals first | (exfalso; omega) | skip
      all_goals
        rename_i v9
        refine st_round (v9, i + 1) (by show i + 1 ≤ T.toNat + 1; omega) (by show T.toNat + 1 - (i + 1) < T.toNat + 1 - i; omega) ?_ (MemFits.pre 3 ?_)
        · dsimp only
          rw [hlen]
          repeat (first|exact FitsSl.nil|refine FitsSl.any ?_|refine FitsSl.cons (Fit1.int (by first | rfl | omega)) ?_|refine FitsSl.cons (Fit1.same (by intro h; cases h) (by with_reducible rfl)) ?_)
        · simp only [autoM, List.take, hlen, hav]
          rfl
    · rw [decide_eq_false hE] at c
      rw [if_neg hE, List.append_nil] at hn
      rw [← hn]
      clear ca hnx hln
      (repeat' (first|(with_reducible first|(refine hK _ _ ?_;clear hK K)|(refine hA ?_;clear hA hB A B)|(refine hB ?_;clear hA hB A B))|((with_reducible refine gO ?_);(first|((with_reducible refine z25 ?_);intro K hK;(conv=>whnf))|(with_reducible refine z0 ?_)))|((first|((with_reducible refine gV ?_);(((with_reducible refine NV.i64 ?s ?_);case s=>omega)))|((with_reducible refine gI ?_);(first|((with_reducible refine NIf.decY ?s ?_);case s=>assumption)|((with_reducible refine NIf.no ?s ?_);case s=>rfl)))|((with_reducible refine gH ?_);((with_reducible refine NH.mk ?s ?_);case s=>(and_intros<;>with_reducible rfl)))|((with_reducible refine gC ?_);(first|((with_reducible refine NCall.isF 47 ?_);refine NCall.pureE (ctop) ?_)|((with_reducible refine NCall.isF 48 ?_);refine NCall.subE [0] (c) rfl (by decide) rfl rfl ?_))))<;>(conv=>whnf))|((with_reducible refine gX ?_);(first|(with_reducible first|refine z3 ?_|refine z4 ?_|refine z5 ?_|refine z6 ?_)|((with_reducible refine z29 ?_);intro A B hA hB;(conv=>whnf))))|(with_reducible first|refine z1 ?_|refine z2 ?_|refine z9 ?_)))
      all_goals first | (exfalso; omega) | skip
      all_goals
        refine st_round (w, i + 1) (by show i + 1 ≤ T.toNat + 1; omega) (by show T.toNat + 1 - (i + 1) < T.toNat + 1 - i; omega) ?_ (MemFits.pre 3 rfl)
        dsimp only
        repeat (first|exact FitsSl.nil|refine FitsSl.any ?_|refine FitsSl.cons (Fit1.int (by first | rfl | omega)) ?_|refine FitsSl.cons (Fit1.same (by intro h; cases h) (by with_reducible rfl)) ?_)
  · have hE : i = T.toNat + 1 := by omega
    subst hE
    clear ca hnx
    (repeat' (first|(with_reducible first|(refine hK _ _ ?_;clear hK K)|(refine hB ?_;clear hA hB A B)|(refine hK _ ?_;clear hK K))|((with_reducible refine gO ?_);(first|((with_reducible refine z25 ?_);intro K hK;(conv=>whnf))|(with_reducible refine z0 ?_)))|((first|((with_reducible refine gI ?_);(((with_reducible refine NIf.decN ?s ?_);case s=>assumption)))|((with_reducible refine gC ?_);((with_reducible refine NCall.isF 47 ?_);refine NCall.pureE (ctop) ?_)))<;>(conv=>whnf))|((with_reducible refine gX ?_);(first|(with_reducible first|refine z3 ?_|refine z4 ?_|refine z7 ?_|refine z8 ?_)|((with_reducible refine z29 ?_);intro A B hA hB;(conv=>whnf))))|(with_reducible first|refine z1 ?_|refine z2 ?_|refine z10 ?_|refine z11 ?_|refine z19 ?_)|((with_reducible refine gR ?_);((refine z31 rfl ?_);intro K hK;(conv=>whnf)))))
    all_goals first | (exfalso; omega) | skip
    all_goals exact ⟨w, rfl, MemFits.pick [0, 2] (by decide) rfl⟩
end Go.Proofs.YtaolcaggdddkpaaGreat
