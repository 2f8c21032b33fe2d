/-
  Trees: the chapter's example; What comes of a packet, by the document: a field set, a packet in its place, all of two.
-/
import Derived.Test.YtaolcaggdddkpaaGreatJ34
import Derived.Test.YtaolcaggdddkpaaGreatJ29
import Derived.Test.YtaolcaggdddkpaaGreatJ22
import Derived.Test.YtaolcaggdddkpaaGreatJ23
namespace Go.Proofs.YtaolcaggdddkpaaGreat
open Go.Sx
set_option maxRecDepth 20000
set_option linter.unusedSimpArgs false
set_option linter.unusedVariables false
set_option maxHeartbeats 4000000
set_option linter.unusedVariables false
namespace Tr
def exL : List Po.T := [.mk 2 Po.noneP 4 2 [], .mk 1 (.mk 2 0 0 []) 0 0 []]
def exX : Po.T := .mk 5 (.mk 3 1 1 []) 0 0 exL
def exC : List C := [⟨⟨-1, -1, 1, -1, -1⟩, [⟨2, -1, -1, -1, -1⟩]⟩, ⟨⟨-1, -1, -1, -1, -1⟩, []⟩]
theorem ex_ans : ans 0 exX = (exC, 0) := by decide +kernel
theorem ex_tot : Po.tot exX = 6 := by decide +kernel
theorem ex_cells : Po.cells (Po.spec 0 exX) ≤ 4096 := by decide +kernel
theorem ex_cnt : cnt (Po.spec 0 exX) order ≤ 1000000 := by decide +kernel
theorem ex_idx : idx (hit ⟨0, 0, 0, 0, 0⟩) exC = 1 := by decide +kernel
end Tr
theorem awake31_cases (F : Heap) (b : Nat) :
    NCall Tryz.prog 8 [.agg [.int .i64 5, .int .i64 3, .int .i64 1, .int .i64 1, .raw (.slice none 0 0), .int .i64 0, .int .i64 0, .sl 2 (.slice (some ⟨b, 0, none⟩) 2 2) 2], .int .i64 0]
      [hpB F, ⟨⟨b, 0, none⟩, [.int .i64 2, .int .i64 0, .int .i64 0, .int .i64 0, .raw (.slice none 0 0), .int .i64 4, .int .i64 2, .raw (.slice none 0 0), .int .i64 1, .int .i64 2, .int .i64 0, .int .i64 0, .raw (.slice none 0 0), .int .i64 0, .int .i64 0, .raw (.slice none 0 0)], .row (.slice (some ⟨b, 0, none⟩) 2 2) 41 8 2⟩]
      fun r m => ∃ G v A cap B cap2, F.le G ∧ Tr.Row G v Tr.exC ∧ SlOk v 2 ∧ SlOk (.slice A 1 cap) 1 ∧ G.c ((addrOf v).add 1) (.int .i64 (-1)) ∧ G.c ((addrOf v).add 2) (.int .i64 1) ∧ G.c ((addrOf v).add 3) (.int .i64 (-1)) ∧ G.c ((addrOf v).add 4) (.int .i64 (-1)) ∧ G.c ((addrOf v).add 5) (.slice A 1 cap) ∧ G.c ((addrOf v).add 11) (.slice B 0 cap2) ∧ SlOk (.slice B 0 cap2) 0 ∧ G.c ((addrOf (.slice A 1 cap)).add 0) (.int .i64 2) ∧ r = .tup [.hs v 2, .int .i64 0] ∧ m = [hpB G, hpB noHeap] := by
  have hok : SlOk (.slice (some ⟨b, 0, none⟩) 2 2) 2 := ⟨_, _, rfl, Nat.le_refl _, fun h => by cases h⟩
  generalize hw : Value.slice (some ⟨b, 0, none⟩) 2 2 = w at *
  have e8 : denL ([.int .i64 2, .int .i64 0, .int .i64 0, .int .i64 0, .raw (.slice none 0 0), .int .i64 4, .int .i64 2, .raw (.slice none 0 0), .int .i64 1, .int .i64 2, .int .i64 0, .int .i64 0, .raw (.slice none 0 0), .int .i64 0, .int .i64 0, .raw (.slice none 0 0)] : List AV) = [(⟨.mk 2 Po.noneP 4 2 [], .slice none 0 0, .slice none 0 0⟩ : Po.L), ⟨.mk 1 (.mk 2 0 0 []) 0 0 [], .slice none 0 0, .slice none 0 0⟩].flatMap Po.psV := rfl
  have r8 := rowF_new (F := F) (sz := 8) (enc := Po.psV) hok e8 (fun x _ => rfl)
  have p8 := Po.row_of r8 fun p hp => by
    rcases List.mem_cons.1 hp with rfl | hp
    · exact ⟨RowF.nil, RowF.nil⟩
    · rw [List.mem_singleton.1 hp]; exact ⟨RowF.nil, RowF.nil⟩
  have hat : Po.At (addF F (addrOf w) (denL ([.int .i64 2, .int .i64 0, .int .i64 0, .int .i64 0, .raw (.slice none 0 0), .int .i64 4, .int .i64 2, .raw (.slice none 0 0), .int .i64 1, .int .i64 2, .int .i64 0, .int .i64 0, .raw (.slice none 0 0), .int .i64 0, .int .i64 0, .raw (.slice none 0 0)] : List AV))) Tr.exX (.slice none 0 0) w := ⟨RowF.nil, p8⟩
  have c := Cases31_c _ Tr.exX (.slice none 0 0) w 0 (by rw [Tr.ex_tot]; decide) hat (fun _ => Tr.ex_cells) (fun _ => Tr.ex_cnt)
  rw [Tr.ex_ans] at c
  refine (NCall.pre (args := [.agg [.int .i64 5, .int .i64 3, .int .i64 1, .int .i64 1, .raw (.slice none 0 0), .int .i64 0, .int .i64 0, .sl 2 w 2], .int .i64 0]) c rfl (MemFits.freeze (m := []))).fits fun r m' hr => ?_
  obtain ⟨G, u, h1, h2, rfl, rfl⟩ := hr
  obtain ⟨A, cap, hA, c0, c1, c2, c3, c4, c5⟩ := h2.get (i := 0) (x := ⟨⟨-1, -1, 1, -1, -1⟩, [⟨2, -1, -1, -1, -1⟩]⟩) rfl
  obtain ⟨B, cap2, hB, d0, d1, d2, d3, d4, d5⟩ := h2.get (i := 1) (x := ⟨⟨-1, -1, -1, -1, -1⟩, []⟩) rfl
  obtain ⟨g0, g1, g2, g3, g4⟩ := RowF.get5 (f0 := fun s : Po.S => .int .i64 s.port) (f1 := fun s => .int .i64 s.p0) (f2 := fun s => .int .i64 s.p1) (f3 := fun s => .int .i64 s.p2) (f4 := fun s => .int .i64 s.p3) hA (k := 0) (by decide)
  exact ⟨_, _, rfl, (MemFits.noHeap _).trans (MemFits.pick [1, 0] (by decide) rfl), G, u, A, cap, B, cap2, addF.old.trans h1, h2, h2.ok, hA.ok, c1, c2, c3, c4, c5, d5, hB.ok, g0, rfl, rfl⟩
theorem awake31_c (F : Heap) : NCall Tryz.prog 7 [] [hpB F] fun r m => r = .bool true ∧ m = [hpB F] := by
  refine NCall.fits (K := fun r m => r = .bool true ∧ ∃ F', F.le F' ∧ MemFits m [hpB F']) ?_ fun r m' ⟨h1, F', h2, h3⟩ => ⟨r, _, rfl, h3.trans (MemFits.less h2 []), h1, rfl⟩
  have cf := fun G v (h : Tr.Row G v Tr.exC) => find31_c G ⟨0, 0, 0, 0, 0⟩ v Tr.exC h (by decide)
  rw [Tr.ex_idx] at cf
  have cf : ∀ G v (h : Tr.Row G v Tr.exC), NCall Tryz.prog 13 [.hs v 2, .int .i64 0, .agg [.int .i64 0, .int .i64 0, .int .i64 0, .int .i64 0]] [hpB G] fun r m => r = .int .i64 1 ∧ m = [hpB G] := cf
  refine ncall_of Tryz.func7 rfl (by decide) ?_
  (repeat' (first|(with_reducible first|(refine hK _ _ ?_;clear hK K)|(refine hK _ ?_;clear hK K))|((with_reducible refine gO ?_);(first|((with_reducible first|refine z25 ?_|refine z26 ?_);intro K hK;(conv=>whnf))|(with_reducible refine z0 ?_)))|((first|((with_reducible refine gI ?_);((((with_reducible refine NIf.yes ?s ?_);case s=>(simp ;done)))))|((with_reducible refine gN ?_);(with_reducible first|refine NN.lit ?_|refine NN.a5 ?_|refine NN.a6 ?_))|((with_reducible refine gH ?_);((with_reducible refine NH.mk ?s ?_);case s=>(and_intros<;>first|with_reducible rfl|((with_reducible refine gOnes ?_);rfl)|((with_reducible refine gLen ?_);rfl)|omega)))|((with_reducible refine gC ?_);(first|((with_reducible refine NCall.isF 8 ?_);refine NCall.subw [0, 2] _ _ (awake31_cases F _) rfl (by decide) rfl ?_; rintro _ _ ⟨G, v, A, cap, B, cap2, hle, hrow, hok, hokA, c1, c2, c3, c4, c5, d5, hokB, g0, rfl, rfl⟩; refine ⟨Nat.le_of_ble_eq_true rfl, _, rfl, ?_⟩)|((with_reducible refine NCall.isF 13 ?_);refine NCall.subE [0] (cf G v hrow) rfl (by decide) rfl rfl ?_)))|(with_reducible refine NLd.of (by with_reducible assumption) ?_))<;>(conv=>whnf))|((with_reducible refine gX ?_);((with_reducible first|refine z3 ?_|refine z4 ?_|refine z8 ?_)))|(with_reducible first|refine z1 ?_|refine z2 ?_)|((with_reducible refine gR ?_);((refine z31 rfl ?_);intro K hK;(conv=>whnf)))|((with_reducible refine gF ?_);((refine z33 rfl ?_);intro K hK;(conv=>whnf)))|((refine NFlat_iff.2 ⟨⟨?s1,?s2⟩,?_⟩;(case s1=>decide +kernel);(case s2=>decide +kernel))<;>(conv=>whnf))|((intro _;skip)<;>(conv=>whnf))))
  all_goals exact ⟨rfl, G, hle, MemFits.pre 1 rfl⟩
end Go.Proofs.YtaolcaggdddkpaaGreat
namespace Go.Proofs.YtaolcaggdddkpaaGreat
open Go.Sx
set_option maxRecDepth 20000
set_option linter.unusedSimpArgs false
set_option linter.unusedVariables false
set_option maxHeartbeats 4000000
set_option linter.unusedVariables false
theorem ahead27_c (x y : Po.S) : NCall Tryz.prog 39 [.agg x.av, .agg y.av] [] fun r _ => r = .bool (decide (Po.ahead x y)) := by
  have hd : ∀ b : Prop, ∀ _ : Decidable b, (Po.ahead x y ↔ b) → AV.bool (decide b) = .bool (decide (Po.ahead x y)) := fun b _ h => by congr 1; exact decide_eq_decide.2 h.symm
  have hF : ¬ Po.ahead x y → AV.bool false = .bool (decide (Po.ahead x y)) := fun h => by rw [decide_eq_false h]
  unfold Po.ahead at *
  obtain ⟨a0, a1, a2, a3, a4⟩ := x
  obtain ⟨b0, b1, b2, b3, b4⟩ := y
  dsimp only [Po.S.av] at *
  refine ncall_of Tryz.func39 rfl (by decide) ?_
  (repeat' (first|(with_reducible first|(refine hK _ _ ?_;clear hK K)|(refine hA ?_;clear hA hB A B)|(refine hB ?_;clear hA hB A B)|(refine hK _ ?_;clear hK K))|((with_reducible refine gO ?_);(first|((with_reducible refine z25 ?_);intro K hK;(conv=>whnf))|(with_reducible refine z0 ?_)))|((with_reducible refine gP ?_);(first|((with_reducible refine z27 ?_);intro K hK;(conv=>whnf))|(with_reducible refine z24 ?_)))|((first|((with_reducible refine gV ?_);(((with_reducible refine NV.i64 ?s ?_);case s=>omega)))|((with_reducible refine gI ?_);(first|with_reducible refine NIf.not_ ?_|((with_reducible refine NIf.decY ?s ?_);case s=>omega)|((with_reducible refine NIf.decN ?s ?_);case s=>omega)|(with_reducible refine NIf.dec (fun _=>?_) (fun _=>?_))))|((with_reducible refine gN ?_);(with_reducible first|refine NN.lit ?_|refine NN.a3 ?_|refine NN.a5 ?_|refine NN.keep ?_))|((with_reducible refine gH ?_);((with_reducible refine NH.mk ?s ?_);case s=>(and_intros<;>first|with_reducible rfl|omega))))<;>(conv=>whnf))|((with_reducible refine gX ?_);(first|(refine z34 (by kernel_rfl) (by decide +kernel) ?_)|(with_reducible refine st_rounds 6 ?_)|(with_reducible first|refine z3 ?_|refine z4 ?_|refine z5 ?_|refine z6 ?_|refine z7 ?_|refine z8 ?_)|((with_reducible refine z29 ?_);intro A B hA hB;(conv=>whnf))))|(with_reducible first|refine z1 ?_|refine z2 ?_|refine z9 ?_|refine z10 ?_|refine z11 ?_|refine z12 ?_|refine z13 ?_|refine z21 ?_|refine z22 ?_|refine z23 ?_)|((with_reducible refine gR ?_);((refine z31 rfl ?_);intro K hK;(conv=>whnf)))|((with_reducible refine gF ?_);((refine z33 rfl ?_);intro K hK;(conv=>whnf)))|((intro _;skip)<;>(conv=>whnf))))
  all_goals first
    | (refine hd _ _ ?_; omega)
    | (refine hF ?_; omega)
    | (exfalso; omega)
namespace Po
/-- As far as a packet has been put in. -/
structure Putting (s : S) (l out : List S) (dn : Bool) (i : Nat) : Prop where
  le : i ≤ l.length
  yes : dn = true → ins s l = out ++ l.drop i
  no : dn = false → out = l.take i ∧ ins s l = l.take i ++ ins s (l.drop i)
  len : out.length ≤ i + 1
theorem Putting.zero (s : S) (l : List S) : Putting s l [] false 0 := ⟨Nat.zero_le _, (fun h => by cases h), fun _ => ⟨rfl, rfl⟩, by simp⟩
theorem Putting.copy {s : S} {l out : List S} {i : Nat} {x : S} (h : Putting s l out true i) (hx : l[i]? = some x) : Putting s l (out ++ [x]) true (i + 1) := by
  obtain ⟨hlt, rfl⟩ := List.getElem?_eq_some_iff.1 hx
  refine ⟨hlt, fun _ => ?_, (fun h => by cases h), by have := h.len; simp; omega⟩
  rw [h.yes rfl, List.drop_eq_getElem_cons hlt, List.append_assoc]; rfl
theorem Putting.found {s : S} {l out : List S} {i : Nat} (h : Putting s l out false i) (hx : l[i]? = some s) : Putting s l (out ++ [s]) true (i + 1) := by
  obtain ⟨hlt, e⟩ := List.getElem?_eq_some_iff.1 hx
  obtain ⟨h1, h2⟩ := h.no rfl
  refine ⟨hlt, fun _ => ?_, (fun h => by cases h), by have := h.len; simp; omega⟩
  rw [h2, h1, List.drop_eq_getElem_cons hlt, e, ins, if_pos rfl, List.append_assoc]; rfl
theorem Putting.here {s : S} {l out : List S} {i : Nat} {x : S} (h : Putting s l out false i) (hx : l[i]? = some x) (hne : x ≠ s) (ha : ahead s x) : Putting s l (out ++ [s] ++ [x]) true (i + 1) := by
  obtain ⟨hlt, rfl⟩ := List.getElem?_eq_some_iff.1 hx
  obtain ⟨h1, h2⟩ := h.no rfl
  have hl : out.length = i := by rw [h1, List.length_take]; omega
  refine ⟨hlt, fun _ => ?_, (fun h => by cases h), by simp; omega⟩
  rw [h2, h1, List.drop_eq_getElem_cons hlt, ins, if_neg hne, if_pos ha]; simp
theorem Putting.past {s : S} {l out : List S} {i : Nat} {x : S} (h : Putting s l out false i) (hx : l[i]? = some x) (hne : x ≠ s) (ha : ¬ ahead s x) : Putting s l (out ++ [x]) false (i + 1) := by
  obtain ⟨hlt, rfl⟩ := List.getElem?_eq_some_iff.1 hx
  obtain ⟨h1, h2⟩ := h.no rfl
  refine ⟨hlt, (fun h => by cases h), fun _ => ?_, by have := h.len; simp; omega⟩
  have e : l.take (i + 1) = l.take i ++ [l[i]] := by rw [List.take_add_one, List.getElem?_eq_getElem hlt]; rfl
  refine ⟨by rw [h1, e], ?_⟩
  rw [h2, e, List.drop_eq_getElem_cons hlt, ins, if_neg hne, if_neg ha, List.append_assoc]; rfl
theorem Putting.end_ {s : S} {l out : List S} {dn : Bool} (h : Putting s l out dn l.length) : ins s l = if dn then out else out ++ [s] := by
  cases dn
  · obtain ⟨h1, h2⟩ := h.no rfl
    rw [h2, h1]; simp [ins]
  · rw [h.yes rfl]; simp
end Po
end Go.Proofs.YtaolcaggdddkpaaGreat
