/-
  Traces: chapter 41's example.
-/
import Derived.Test.YtniahabpedamcaaDoorTc12
import Derived.Test.YtniahabpedamcaaDoorTc10
import Derived.Test.YtniahabpedamcaaDoorTc7
import Derived.Test.YtniahabpedamcaaDoorTc5
namespace Go.Proofs.YtniahabpedamcaaDoor
open Go.Sx
set_option maxRecDepth 20000
set_option linter.unusedSimpArgs false
set_option linter.unusedVariables false
set_option maxHeartbeats 4000000
set_option linter.unusedVariables false
namespace Tc
def exE : List E := [⟨1, 5, 0, 0, 1, 0⟩, ⟨2, 5, 0, 0, 0, 0⟩, ⟨2, 9, 0, 2, 0, 0⟩, ⟨3, 9, 0, 2, 0, 0⟩]
def exC : C := ⟨0, 1, 0, 5, [0, 2], 3, 0, 9⟩
theorem ex_tr : tr exE = [exC] := by decide +kernel
theorem ex_txt : txt exC = [48, 58, 32, 49, 62, 48, 32, 97, 116, 32, 53, 58, 32, 48, 32, 50, 32, 103, 111, 110, 101, 32, 48, 32, 97, 116, 32, 57] := by decide +kernel
theorem ex_in : exC.In := ⟨⟨by decide, by decide⟩, ⟨by decide, by decide⟩, ⟨by decide, by decide⟩, ⟨by decide, by decide⟩, ⟨by decide, by decide⟩, ⟨by decide, by decide⟩, fun z hz => by
  simp only [exC, List.mem_cons, List.not_mem_nil, or_false] at hz
  rcases hz with rfl | rfl <;> exact ⟨by decide, by decide⟩⟩
def E.Ok (e : E) : Prop := (-9223372036854775808 ≤ e.kind ∧ e.kind ≤ 9223372036854775807) ∧ (-9223372036854775808 ≤ e.real ∧ e.real ≤ 9223372036854775807) ∧ (-9223372036854775808 ≤ e.u ∧ e.u ≤ 9223372036854775807) ∧ (-9223372036854775808 ≤ e.sw ∧ e.sw ≤ 9223372036854775807) ∧ (-9223372036854775808 ≤ e.x ∧ e.x ≤ 9223372036854775807) ∧ (-9223372036854775808 ≤ e.y ∧ e.y ≤ 9223372036854775807)
theorem E.Ok.in_ {e : E} (h : e.Ok) : e.In := ⟨h.2.1, h.2.2.1, h.2.2.2.1, h.2.2.2.2.1, h.2.2.2.2.2⟩
end Tc
/-- Over a row of one's own: it lies among what is read alone from then on. -/
theorem of41_own (F : Heap) (w : Value) (l : List Tc.E) (cs : List AV) (t : TypeId) (j : Nat) (hcs : denL cs = l.flatMap Tc.E.V) (hl : l.length ≤ 1000) :
    NCall Tryd.prog 6 [.sl j w l.length] [hpB F, ⟨addrOf w, cs, .row w t 6 l.length⟩] fun r m => ∃ G u, F.le G ∧ Tc.ERow G w l ∧ Tc.Row G u (Tc.tr l) ∧ r = .hs u (Tc.tr l).length ∧ m = [hpB G, hpB noHeap] := by
  refine NCall.when (of41_c noHeap (.slice none 0 0) [] RowF.nil (by decide)) fun ⟨W, hW⟩ => ?_
  have hok := (hW.row (List.mem_cons_of_mem _ (List.mem_singleton.2 rfl))).1
  have hrow := rowF_new (F := F) (sz := 6) (enc := Tc.E.V) hok hcs (fun x _ => rfl)
  refine (NCall.pre (args := [.sl j w l.length]) (of41_c _ w l hrow hl) rfl (MemFits.freeze (m := []))).fits fun r m' ⟨G, u, h1, h2, h3, h4⟩ => ?_
  subst h3 h4
  exact ⟨_, _, rfl, (MemFits.noHeap _).trans (MemFits.pick [1, 0] (by decide) rfl), G, u, addF.old.trans h1, Tc.erow_mono h1 hrow, h2, rfl, rfl⟩
theorem awake41_of (F : Heap) (b : Nat) : NCall Tryd.prog 6 [.sl 1 (.slice (some ⟨b, 0, none⟩) 4 4) 4] [hpB F, ⟨⟨b, 0, none⟩, [.int .i64 1, .int .i64 5, .int .i64 0, .int .i64 0, .int .i64 1, .int .i64 0, .int .i64 2, .int .i64 5, .int .i64 0, .int .i64 0, .int .i64 0, .int .i64 0, .int .i64 2, .int .i64 9, .int .i64 0, .int .i64 2, .int .i64 0, .int .i64 0, .int .i64 3, .int .i64 9, .int .i64 0, .int .i64 2, .int .i64 0, .int .i64 0], .row (.slice (some ⟨b, 0, none⟩) 4 4) 41 6 4⟩]
    fun r m => ∃ G u A cap, F.le G ∧ SlOk u 1 ∧ Tc.IRow G (.slice A 2 cap) [0, 2] ∧ (G.c ((addrOf u).add 0) (.int .i64 0) ∧ G.c ((addrOf u).add 1) (.int .i64 1) ∧ G.c ((addrOf u).add 2) (.int .i64 0) ∧ G.c ((addrOf u).add 3) (.int .i64 5) ∧ G.c ((addrOf u).add 4) (.slice A 2 cap) ∧ G.c ((addrOf u).add 5) (.int .i64 3) ∧ G.c ((addrOf u).add 6) (.int .i64 0) ∧ G.c ((addrOf u).add 7) (.int .i64 9)) ∧ r = .hs u 1 ∧ m = [hpB G, hpB noHeap] := by
  have co := of41_own F (.slice (some ⟨b, 0, none⟩) 4 4) Tc.exE [.int .i64 1, .int .i64 5, .int .i64 0, .int .i64 0, .int .i64 1, .int .i64 0, .int .i64 2, .int .i64 5, .int .i64 0, .int .i64 0, .int .i64 0, .int .i64 0, .int .i64 2, .int .i64 9, .int .i64 0, .int .i64 2, .int .i64 0, .int .i64 0, .int .i64 3, .int .i64 9, .int .i64 0, .int .i64 2, .int .i64 0, .int .i64 0] 41 1 rfl (by decide)
  rw [Tc.ex_tr] at co
  refine NCall.mono co fun r m ⟨G, u, h1, _, h2, h3, h4⟩ => ?_
  obtain ⟨A, cap, hr, c0, c1, c2, c3, c4, c5, c6, c7⟩ := h2.get (i := 0) (x := Tc.exC) rfl
  exact ⟨G, u, A, cap, h1, h2.ok, hr, ⟨c0, c1, c2, c3, c4, c5, c6, c7⟩, h3, h4⟩
theorem awake41_c (F : Heap) (hF : TabF F) : NCall Tryd.prog 5 [] [hpB F] fun r m => r = .bool true ∧ m = [hpB F] := by
  refine NCall.fits (K := fun r m => r = .bool true ∧ ∃ F', F.le F' ∧ MemFits m [hpB F']) ?_ fun r m' ⟨h1, F', h2, h3⟩ => ⟨r, _, rfl, h3.trans (MemFits.less h2 []), h1, rfl⟩
  have ct := fun G v (hG : F.le G) (hv : Tc.IRow G v [0, 2]) => text41_c G (TabF.mono hG hF) Tc.exC v hv (by decide) Tc.ex_in
  rw [Tc.ex_txt] at ct
  have ch := fun G v (hv : Tc.IRow G v [0, 2]) => hops41_c G Tc.exC v hv (by decide)
  have cw := fun G v (hv : Tc.IRow G v [0, 2]) => twice41_c G Tc.exC v hv (by decide)
  rw [show Tc.hops Tc.exC.sws = 1 from rfl] at ch
  rw [show Tc.twice Tc.exC.sws = false by decide] at cw
  simp only [Tc.cs, Tc.exC] at ct ch cw
  refine ncall_of Tryd.func5 rfl (by decide) ?_
  (repeat' (first|(with_reducible first|(refine hK _ _ ?_;clear hK K)|(refine hK _ ?_;clear hK K))|((with_reducible refine gO ?_);(first|((with_reducible first|refine z25 ?_|refine z26 ?_);intro K hK;(conv=>whnf))|(with_reducible refine z0 ?_)))|((first|((with_reducible refine gI ?_);((((with_reducible refine NIf.yes ?s ?_);case s=>(simp ;done)))))|(with_reducible refine gN ?_;first|refine NN.lit ?_|refine NN.a6 ?_)|((with_reducible refine gH ?_;refine NH.mk ?s ?_);case s=>(and_intros<;>first|((with_reducible refine gLen ?_);rfl)|omega))|((with_reducible refine gC ?_);(first|((with_reducible refine NCall.isF 6 ?_);refine NCall.subw [0, 1] _ _ (awake41_of F _) rfl (by decide) rfl ?_; rintro _ _ ⟨G, u, A, cap, hle, huo, hr, ⟨c0, c1, c2, c3, c4, c5, c6, c7⟩, rfl, rfl⟩; refine ⟨Nat.le_of_ble_eq_true rfl, _, rfl, ?_⟩)|((with_reducible refine NCall.isF 13 ?_);refine NCall.subE [0] (ct G _ hle hr) rfl (by decide) rfl rfl ?_)|((with_reducible refine NCall.isF 10 ?_);refine NCall.subE [0] (ch G _ hr) rfl (by decide) rfl rfl ?_)|((with_reducible refine NCall.isF 11 ?_);refine NCall.subE [0] (cw G _ hr) rfl (by decide) rfl rfl ?_)))|(with_reducible refine NLd.of (by with_reducible assumption) ?_))<;>(conv=>whnf))|(with_reducible refine gX ?_;first|refine z3 ?_|refine z4 ?_|refine z8 ?_)|(with_reducible first|refine z1 ?_|refine z2 ?_)|((with_reducible refine gR ?_);((refine z31 rfl ?_);intro K hK;(conv=>whnf)))|((with_reducible refine gF ?_);((refine z33 rfl ?_);intro K hK;(conv=>whnf)))|((intro _;skip)<;>(conv=>whnf))))
  all_goals exact ⟨rfl, G, hle, MemFits.pre 1 rfl⟩
end Go.Proofs.YtniahabpedamcaaDoor


