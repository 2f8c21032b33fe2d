/-
  Trees: the chapter's example; What comes of a packet, by the document: a field set, a packet in its place, all of two.
-/
import Derived.Test.YtaolcaggdddkpaaGreatJ34
import Derived.Test.YtaolcaggdddkpaaGreatJ29
import Derived.Test.YtaolcaggdddkpaaGreatJ22
import Derived.Test.YtaolcaggdddkpaaGreatJ23
namespace Go.Proofs.YtaolcaggdddkpaaGreat
open Go.Sx
set_option maxRecDepth 20000
set_option linter.unusedSimpArgs false
set_option linter.unusedVariables false
set_option maxHeartbeats 4000000
set_option linter.unusedVariables false
namespace Tr
def exL : List Po.T := [.mk 2 Po.noneP 4 2 [], .mk 1 (.mk 2 0 0 []) 0 0 []]
def exX : Po.T := .mk 5 (.mk 3 1 1 []) 0 0 exL
def exC : List C := [⟨⟨-1, -1, 1, -1, -1⟩, [⟨2, -1, -1, -1, -1⟩]⟩, ⟨⟨-1, -1, -1, -1, -1⟩, []⟩]
theorem ex_ans : ans 0 exX = (exC, 0) := by decide +kernel
theorem ex_tot : Po.tot exX = 6 := by decide +kernel
theorem ex_cells : Po.cells (Po.spec 0 exX) ≤ 4096 := by decide +kernel
theorem ex_cnt : cnt (Po.spec 0 exX) order ≤ 1000000 := by decide +kernel
theorem ex_idx : idx (hit ⟨0, 0, 0, 0, 0⟩) exC = 1 := by decide +kernel
end Tr
theorem awake31_cases (F : Heap) (b : Nat) :
    NCall Tryz.prog 8 [.agg [.int .i64 5, .int .i64 3, .int .i64 1, .int .i64 1, .raw (.slice none 0 0), .int .i64 0, .int .i64 0, .sl 2 (.slice (some ⟨b, 0, none⟩) 2 2) 2], .int .i64 0]
      [hpB F, ⟨⟨b, 0, none⟩, [.int .i64 2, .int .i64 0, .int .i64 0, .int .i64 0, .raw (.slice none 0 0), .int .i64 4, .int .i64 2, .raw (.slice none 0 0), .int .i64 1, .int .i64 2, .int .i64 0, .int .i64 0, .raw (.slice none 0 0), .int .i64 0, .int .i64 0, .raw (.slice none 0 0)], .row (.slice (some ⟨b, 0, none⟩) 2 2) 41 8 2⟩]
      fun r m => ∃ G v A cap B cap2, F.le G ∧ Tr.Row G v Tr.exC ∧ SlOk v 2 ∧ SlOk (.slice A 1 cap) 1 ∧ G.c ((addrOf v).add 1) (.int .i64 (-1)) ∧ G.c ((addrOf v).add 2) (.int .i64 1) ∧ G.c ((addrOf v).add 3) (.int .i64 (-1)) ∧ G.c ((addrOf v).add 4) (.int .i64 (-1)) ∧ G.c ((addrOf v).add 5) (.slice A 1 cap) ∧ G.c ((addrOf v).add 11) (.slice B 0 cap2) ∧ SlOk (.slice B 0 cap2) 0 ∧ G.c ((addrOf (.slice A 1 cap)).add 0) (.int .i64 2) ∧ r = .tup [.hs v 2, .int .i64 0] ∧ m = [hpB G, hpB noHeap] := by
  have hok : SlOk (.slice (some ⟨b, 0, none⟩) 2 2) 2 := ⟨_, _, rfl, Nat.le_refl _, fun h => by cases h⟩
  generalize hw : Value.slice (some ⟨b, 0, none⟩) 2 2 = w at *
  have e8 : denL ([.int .i64 2, .int .i64 0, .int .i64 0, .int .i64 0, .raw (.slice none 0 0), .int .i64 4, .int .i64 2, .raw (.slice none 0 0), .int .i64 1, .int .i64 2, .int .i64 0, .int .i64 0, .raw (.slice none 0 0), .int .i64 0, .int .i64 0, .raw (.slice none 0 0)] : List AV) = [(⟨.mk 2 Po.noneP 4 2 [], .slice none 0 0, .slice none 0 0⟩ : Po.L), ⟨.mk 1 (.mk 2 0 0 []) 0 0 [], .slice none 0 0, .slice none 0 0⟩].flatMap Po.psV := rfl
  have r8 := rowF_new (F := F) (sz := 8) (enc := Po.psV) hok e8 (fun x _ => rfl)
  have p8 := Po.row_of r8 fun p hp => by
    rcases List.mem_cons.1 hp with rfl | hp
    · exact ⟨RowF.nil, RowF.nil⟩
    · rw [List.mem_singleton.1 hp]; exact ⟨RowF.nil, RowF.nil⟩
  have hat : Po.At (addF F (addrOf w) (denL ([.int .i64 2, .int .i64 0, .int .i64 0, .int .i64 0, .raw (.slice none 0 0), .int .i64 4, .int .i64 2, .raw (.slice none 0 0), .int .i64 1, .int .i64 2, .int .i64 0, .int .i64 0, .raw (.slice none 0 0), .int .i64 0, .int .i64 0, .raw (.slice none 0 0)] : List AV))) Tr.exX (.slice none 0 0) w := ⟨RowF.nil, p8⟩
  have c := Cases31_c _ Tr.exX (.slice none 0 0) w 0 (by rw [Tr.ex_tot]; decide) hat (fun _ => Tr.ex_cells) (fun _ => Tr.ex_cnt)
  rw [Tr.ex_ans] at c
  refine (NCall.pre (args := [.agg [.int .i64 5, .int .i64 3, .int .i64 1, .int .i64 1, .raw (.slice none 0 0), .int .i64 0, .int .i64 0, .sl 2 w 2], .int .i64 0]) c rfl (MemFits.freeze (m := []))).fits fun r m' hr => ?_
  obtain ⟨G, u, h1, h2, rfl, rfl⟩ := hr
  obtain ⟨A, cap, hA, c0, c1, c2, c3, c4, c5⟩ := h2.get (i := 0) (x := ⟨⟨-1, -1, 1, -1, -1⟩, [⟨2, -1, -1, -1, -1⟩]⟩) rfl
  obtain ⟨B, cap2, hB, d0, d1, d2, d3, d4, d5⟩ := h2.get (i := 1) (x := ⟨⟨-1, -1, -1, -1, -1⟩, []⟩) rfl
  obtain ⟨g0, g1, g2, g3, g4⟩ := RowF.get5 (f0 := fun s : Po.S => .int .i64 s.port) (f1 := fun s => .int .i64 s.p0) (f2 := fun s => .int .i64 s.p1) (f3 := fun s => .int .i64 s.p2) (f4 := fun s => .int .i64 s.p3) hA (k := 0) (by decide)
  exact ⟨_, _, rfl, (MemFits.noHeap _).trans (MemFits.pick [1, 0] (by decide) rfl), G, u, A, cap, B, cap2, addF.old.trans h1, h2, h2.ok, hA.ok, c1, c2, c3, c4, c5, d5, hB.ok, g0, rfl, rfl⟩
theorem awake31_c (F : Heap) : NCall Tryz.prog 7 [] [hpB F] fun r m => r = .bool true ∧ m = [hpB F] := by
  refine NCall.fits (K := fun r m => r = .bool true ∧ ∃ F', F.le F' ∧ MemFits m [hpB F']) ?_ fun r m' ⟨h1, F', h2, h3⟩ => ⟨r, _, rfl, h3.trans (MemFits.less h2 []), h1, rfl⟩
  have cf := fun G v (h : Tr.Row G v Tr.exC) => find31_c G ⟨0, 0, 0, 0, 0⟩ v Tr.exC h (by decide)
  rw [Tr.ex_idx] at cf
  have cf : ∀ G v (h : Tr.Row G v Tr.exC), NCall Tryz.prog 13 [.hs v 2, .int .i64 0, .agg [.int .i64 0, .int .i64 0, .int .i64 0, .int .i64 0]] [hpB G] fun r m => r = .int .i64 1 ∧ m = [hpB G] := cf
  refine ncall_of Tryz.func7 rfl (by decide) ?_
  (repeat' (first|(with_reducible first|(refine hK _ _ ?_;clear hK K)|(refine hK _ ?_;clear hK K))|((with_reducible refine gO ?_);(first|((with_reducible first|refine z25 ?_|refine z26 ?_);intro K hK;(conv=>whnf))|(with_reducible refine z0 ?_)))|((first|((with_reducible refine gI ?_);((((with_reducible refine NIf.yes ?s ?_);case s=>(simp ;done)))))|((with_reducible refine gN ?_);(with_reducible first|refine NN.lit ?_|refine NN.a5 ?_|refine NN.a6 ?_))|((with_reducible refine gH ?_);((with_reducible refine NH.mk ?s ?_);case s=>(and_intros<;>first|with_reducible rfl|((with_reducible refine gOnes ?_);rfl)|((with_reducible refine gLen ?_);rfl)|omega)))|((with_reducible refine gC ?_);(first|((with_reducible refine NCall.isF 8 ?_);refine NCall.subw [0, 2] _ _ (awake31_cases F _) rfl (by decide) rfl ?_; rintro _ _ ⟨G, v, A, cap, B, cap2, hle, hrow, hok, hokA, c1, c2, c3, c4, c5, d5, hokB, g0, rfl, rfl⟩; refine ⟨Nat.le_of_ble_eq_true rfl, _, rfl, ?_⟩)|((with_reducible refine NCall.isF 13 ?_);refine NCall.subE [0] (cf G v hrow) rfl (by decide) rfl rfl ?_)))|(with_reducible refine NLd.of (by with_reducible assumption) ?_))<;>(conv=>whnf))|((with_reducible refine gX ?_);((with_reducible first|refine z3 ?_|refine z4 ?_|refine z8 ?_)))|(with_reducible first|refine z1 ?_|refine z2 ?_)|((with_reducible refine gR ?_);((refine z31 rfl ?_);intro K hK;(conv=>whnf)))|((with_reducible refine gF ?_);((refine z33 rfl ?_);intro K hK;(conv=>whnf)))|((refine NFlat_iff.2 ⟨⟨?s1,?s2⟩,?_⟩;(case s1=>decide +kernel);(case s2=>decide +kernel))<;>(conv=>whnf))|((intro _;skip)<;>(conv=>whnf))))
  all_goals exact ⟨rfl, G, hle, MemFits.pre 1 rfl⟩
end Go.Proofs.YtaolcaggdddkpaaGreat
namespace Go.Proofs.YtaolcaggdddkpaaGreat
open Go.Sx
set_option maxRecDepth 20000
set_option linter.unusedSimpArgs false
set_option linter.unusedVariables false
set_option maxHeartbeats 4000000
set_option linter.unusedVariables false
theorem reftop7_c (f : Int) : NCall Tryz.prog 40 [.int .i64 f] [] fun r _ => r = .int .i64 (Po.ptop f) := by
  refine ncall_of Tryz.func40 rfl (by decide) ?_
  unfold Po.ptop
  by_cases h2 : f = 2
  · subst h2
    (repeat' (first|(with_reducible first|(refine hK _ _ ?_;clear hK K)|(refine hA ?_;clear hA hB A B)|(refine hK _ ?_;clear hK K))|((with_reducible refine gO ?_);(first|((with_reducible refine z25 ?_);intro K hK;(conv=>whnf))|(with_reducible refine z0 ?_)))|((((with_reducible refine gI ?_);(((with_reducible refine NIf.decY ?s ?_);case s=>with_reducible rfl))))<;>(conv=>whnf))|((with_reducible refine gX ?_);(first|(with_reducible first|refine z3 ?_|refine z4 ?_|refine z8 ?_)|((with_reducible refine z29 ?_);intro A B hA hB;(conv=>whnf))))|(with_reducible first|refine z1 ?_|refine z2 ?_|refine z12 ?_)|((with_reducible refine gR ?_);((refine z31 rfl ?_);intro K hK;(conv=>whnf)))|((with_reducible refine gF ?_);((refine z33 rfl ?_);intro K hK;(conv=>whnf)))))
    all_goals rfl
  rw [if_neg h2]
  by_cases h3 : f = 0 ∨ f = 1 ∨ f = 3
  · rw [if_pos h3]
    rcases h3 with rfl | rfl | rfl
    all_goals (repeat' (first|(with_reducible first|(refine hK _ _ ?_;clear hK K)|(refine hA ?_;clear hA hB A B)|(refine hB ?_;clear hA hB A B)|(refine hK _ ?_;clear hK K))|((with_reducible refine gO ?_);(first|((with_reducible first|refine z25 ?_|refine z26 ?_);intro K hK;(conv=>whnf))|(with_reducible refine z0 ?_)))|((((with_reducible refine gI ?_);(first|((with_reducible refine NIf.decY ?s ?_);case s=>with_reducible rfl)|((with_reducible refine NIf.decN ?s ?_);case s=>first|assumption|omega)|((with_reducible refine NIf.yes ?s ?_);case s=>rfl))))<;>(conv=>whnf))|((with_reducible refine gX ?_);(first|(with_reducible first|refine z3 ?_|refine z4 ?_|refine z6 ?_|refine z8 ?_)|((with_reducible refine z29 ?_);intro A B hA hB;(conv=>whnf))))|(with_reducible first|refine z1 ?_|refine z2 ?_|refine z12 ?_)|((with_reducible refine gR ?_);((refine z31 rfl ?_);intro K hK;(conv=>whnf)))|((with_reducible refine gF ?_);((refine z33 rfl ?_);intro K hK;(conv=>whnf)))))
    all_goals rfl
  · rw [if_neg h3]
    (repeat' (first|(with_reducible first|(refine hK _ _ ?_;clear hK K)|(refine hB ?_;clear hA hB A B)|(refine hK _ ?_;clear hK K))|((with_reducible refine gO ?_);(first|((with_reducible first|refine z25 ?_|refine z26 ?_);intro K hK;(conv=>whnf))|(with_reducible refine z0 ?_)))|((((with_reducible refine gI ?_);(((with_reducible refine NIf.decN ?s ?_);case s=>first|assumption|omega))))<;>(conv=>whnf))|((with_reducible refine gX ?_);(first|(with_reducible first|refine z3 ?_|refine z4 ?_|refine z6 ?_|refine z8 ?_)|((with_reducible refine z29 ?_);intro A B hA hB;(conv=>whnf))))|(with_reducible first|refine z1 ?_|refine z2 ?_)|((with_reducible refine gR ?_);((refine z31 rfl ?_);intro K hK;(conv=>whnf)))|((with_reducible refine gF ?_);((refine z33 rfl ?_);intro K hK;(conv=>whnf)))))
    all_goals first | rfl | (exfalso; omega)
namespace Po
end Po
end Go.Proofs.YtaolcaggdddkpaaGreat
