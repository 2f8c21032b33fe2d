/-
  Journals, walked: the chapter's example; how many records of a kind.
-/
import Derived.Test.YtdalneokgejmjaaDoorJr4
namespace Go.Proofs.YtdalneokgejmjaaDoor
open Go.Sx
set_option maxRecDepth 20000
set_option linter.unusedSimpArgs false
set_option linter.unusedVariables false
set_option maxHeartbeats 1000000
set_option linter.unusedVariables false
theorem slOf_cut (v : Value) (sz lo hi : Nat) : slOf (cutSl v sz lo hi) = cutSl v sz lo hi := by
  unfold cutSl
  split <;> rfl
def exL : List Jr.Rec := [⟨1, 1, 2, 30⟩, ⟨2, 1, 0, 0⟩, ⟨3, 1, 0, 0⟩, ⟨5, 1, 0, 0⟩]
theorem exL_ok : ∀ r ∈ exL, r.ok := by
  intro r hr
  simp only [exL, List.mem_cons, List.not_mem_nil, or_false] at hr
  rcases hr with rfl | rfl | rfl | rfl <;> exact ⟨⟨by decide, by decide⟩, ⟨by decide, by decide⟩, ⟨by decide, by decide⟩, ⟨by decide, by decide⟩⟩
deriving instance DecidableEq for Jr.St
theorem exL_replay : Jr.replay Jr.zero 0 exL = (⟨1, 2, false, 0, 0, 0, false, false, 0⟩, 4, true) := by decide +kernel
theorem exL_fate : Jr.fate exL 1 = 2 := by decide +kernel
theorem exL_text : Jr.text ((exL.drop 0).take (2 - 0)) = [98, 101, 103, 105, 110, 32, 49, 32, 50, 32, 51, 48, 10, 97, 114, 109, 32, 49, 32, 48, 32, 48, 10] := by decide +kernel
section
variable (F : Heap) (hF : TabF F) (u : Value) (m : List Blk) (hm : MemFits m [hpB F, ⟨addrOf u, exL.flatMap Jr.Rec.av, .row u 37 4 4⟩])
include hm
theorem exReplay (j : Nat) : NCall Tryd.prog 11 [.sl j u 4] m fun r m' => r = .tup [.agg [.int .i64 1, .int .i64 2, .bool false, .int .i64 0, .int .i64 0, .int .i64 0, .bool false, .bool false, .int .i64 0], .int .i64 4, .int .i64 0] ∧ m' = m := by
  refine NCall.frozen (l := exL) (args' := [.hs u 4]) Jr.recV (replay36_c F (.slice none 0 0) [] RowF.nil (by decide) (fun _ h => by cases h)) rfl hm rfl (Jr.av_den _) (fun y _ => rfl) fun G hG hrow => ?_
  exact (replay36_c G u exL hrow (by decide) exL_ok).mono fun r m' h => ⟨by rw [h.1, exL_replay]; rfl, rfl⟩
theorem exFate (j : Nat) : NCall Tryd.prog 12 [.sl j u 4, .int .i64 1] m fun r m' => r = .int .i64 2 ∧ m' = m := by
  refine NCall.frozen (l := exL) (args' := [.hs u 4, .int .i64 1]) Jr.recV (fate36_c F (.slice none 0 0) [] RowF.nil (by decide) 1) rfl hm rfl (Jr.av_den _) (fun y _ => rfl) fun G hG hrow => ?_
  exact (fate36_c G u exL hrow (by decide) 1).mono fun r m' h => ⟨by rw [h.1, exL_fate], rfl⟩
include hF
theorem exText (j : Nat) : NCall Tryd.prog 8 [.view j u 4 0 2] m fun r m' => r = .str [98, 101, 103, 105, 110, 32, 49, 32, 50, 32, 51, 48, 10, 97, 114, 109, 32, 49, 32, 48, 32, 48, 10] ∧ m' = m := by
  refine NCall.frozen (l := exL) (args' := [.hs (cutSl u 4 0 2) 2]) Jr.recV (text36_c F hF (.slice none 0 0) [] RowF.nil (by decide) (fun _ h => by cases h)) (by simp only [denL, AV.den, slOf_cut]) hm rfl (Jr.av_den _) (fun y _ => rfl) fun G hG hrow => ?_
  have hc := hrow.cut (lo := 0) (hi := 2) (by decide) (by decide)
  exact (text36_c G (hF.mono hG) (cutSl u 4 0 2) ((exL.drop 0).take (2 - 0)) hc (by decide) (fun r hr => exL_ok r (List.mem_of_mem_drop (List.mem_of_mem_take hr)))).mono fun r m' h => ⟨by rw [h.1, exL_text], rfl⟩
end
theorem awake36_c (F : Heap) (hF : TabF F) : NCall Tryd.prog 4 [] [hpB F] fun r m => r = .bool true ∧ m = [hpB F] := by
  refine NCall.fits (K := fun v m => v = .bool true ∧ MemFits m [hpB F]) ?_ fun r m' h => ⟨r, _, rfl, h.2, h.1, rfl⟩
  refine ncall_of Tryd.func4 rfl (by decide) ?_
  (repeat' (first | (with_reducible first|refine z0 ?_|refine z1 ?_|refine z2 ?_|refine z3 ?_|refine z4 ?_|refine z5 ?_|refine z6 ?_|refine z7 ?_|refine z8 ?_|refine z9 ?_|refine z10 ?_|refine z11 ?_|refine z12 ?_|refine z13 ?_|refine z14 ?_|refine z15 ?_|refine z16 ?_|refine z17 ?_|refine z18 ?_|refine z19 ?_|refine z20 ?_|refine z21 ?_|refine z22 ?_|refine z23 ?_|refine z24 ?_) | (((with_reducible first|refine z25 ?_|refine z26 ?_|refine z27 ?_|refine z28 ?_);intro K hK;(conv=>whnf))) | (with_reducible first|(refine hK _ _ ?_;clear hK K)|(refine hA ?_;clear hA hB A B)|(refine hB ?_;clear hA hB A B)|(refine hK _ ?_;clear hK K)) | ((with_reducible refine z29 ?_);intro A B hA hB;(conv=>whnf)) | (refine z30 (by decide) ?_) | ((first|refine z31 rfl ?_|refine z32 rfl ?_|refine z33 rfl ?_);intro K hK;(conv=>whnf)) | (refine z34 (by kernel_rfl) (by kernel_rfl) ?_) | ((with_reducible refine NCall.isF 11 ?_); (refine (exReplay F _ _ (MemFits.pick [0, 1] (by decide) rfl) _).mono ?_; rintro _ _ ⟨rfl, rfl⟩; (conv=>whnf))) | ((with_reducible refine NCall.isF 12 ?_); (refine (exFate F _ _ (MemFits.pick [0, 1] (by decide) rfl) _).mono ?_; rintro _ _ ⟨rfl, rfl⟩; (conv=>whnf))) | ((with_reducible refine NCall.isF 8 ?_); (refine (exText F hF _ _ (MemFits.pick [0, 1] (by decide) rfl) _).mono ?_; rintro _ _ ⟨rfl, rfl⟩; (conv=>whnf))) | (((with_reducible first|refine NV.quo ?s ?_|refine NV.rem ?s ?_|refine NV.i64 ?s ?_|refine NV.u32 ?s ?_|refine NV.u8 ?s ?_|refine NV.u64 ?s ?_);case s=>omega)<;>(conv=>whnf)) | ((with_reducible first|refine NV.divk ?_|refine NV.modk ?_|refine NN.lit ?_|refine NN.cast ?_|refine NN.a1 ?_|refine NN.a2 ?_|refine NN.a3 ?_|refine NN.a4 ?_|refine NN.a5 ?_|refine NN.a6 ?_|refine NV.keep ?_|refine NN.keep ?_|refine NS.keep ?_|refine NIf.not_ ?_)<;>(conv=>whnf)) | (((with_reducible refine NH.mk ?s ?_);case s=>(and_intros <;> first | with_reducible rfl | omega | assumption | exact Nat.le_of_ble_eq_true rfl | (simp only [List.length_append, List.length_cons, List.length_nil]; omega) | rfl))<;>(conv=>whnf)) | (((with_reducible refine NIf.decY ?s ?_);case s=>first|with_reducible rfl|assumption|omega)<;>(conv=>whnf)) | (((with_reducible refine NIf.decN ?s ?_);case s=>first|with_reducible rfl|assumption|omega)<;>(conv=>whnf)) | (((with_reducible refine NIf.yes ?s ?_);case s=>first|rfl|assumption)<;>(conv=>whnf)) | (((with_reducible refine NIf.no ?s ?_);case s=>first|rfl|assumption)<;>(conv=>whnf)) | (((with_reducible refine NLd.of (by with_reducible assumption) ?_))<;>(conv=>whnf)) | ((refine NFlat_iff.2 ⟨⟨?s1,?s2⟩,?_⟩;(case s1=>decide +kernel);(case s2=>decide +kernel))<;>(conv=>whnf)) | ((with_reducible first|refine NIf.dec (fun _=>?_) (fun _=>?_)|refine NIf.both (fun _=>?_) (fun _=>?_))<;>(conv=>whnf)) | ((intro _;skip)<;>(conv=>whnf))))
  all_goals exact ⟨rfl, MemFits.pre 1 rfl⟩
end Go.Proofs.YtdalneokgejmjaaDoor
