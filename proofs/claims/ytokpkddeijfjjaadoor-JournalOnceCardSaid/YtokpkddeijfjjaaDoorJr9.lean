/-
  JournalOnce: each update was begun once, and was committed, or closed, once at the most.
-/
import Derived.Test.YtokpkddeijfjjaaDoorJr5
import Derived.ChangeArms
import GoSem.ClaimJoined
namespace Go.Proofs.YtokpkddeijfjjaaDoor
open Go.Sx
set_option maxRecDepth 20000
set_option linter.unusedSimpArgs false
set_option linter.unusedVariables false
set_option maxHeartbeats 4000000
set_option linter.unusedVariables false
/-- How long a slice may be: the form's own reach. -/
theorem big_len {H : Type} {enc : TypeId × Value → H} {P : Program} {W : World} {sp : Nat → Bool} {held : Bool} {t e : TypeId} {fuel len cap : Nat} {a : Option Addr} {d : DataW H} {p : List MemPlace} {ts : List TypeId} {ds : List (DataW H)}
    (hu : P.underlying t = some (.slice e)) (hf : DataW.trod enc P W 0 sp held fuel t (Value.slice a len cap).cells.toList = some (d, p)) (hZ : (DataW.weightsEach P (t :: ts) (d :: ds)).all (· ≤ reachBytes) = true) : len * P.bytesOf e ≤ reachBytes := by
  rcases DataW.trod_slice hu hf with ⟨h1, _⟩ | ⟨a', len', cap', elems, rest, n, _, h1, h2, _, _, _, hlen, _⟩
  · have : len = 0 := by
      simp [Value.cells] at h1
      exact h1.2.1
    rw [this]; simp
  · have h3 : len = len' := by
      simp [Value.cells] at h1
      exact h1.2.1
    have h4 : d = .slice (elems.map (·.1)) (rest.map (·.1)) := congrArg Prod.fst h2
    rw [h4] at hZ
    unfold DataW.weightsEach DataW.weights at hZ
    simp only [hu, List.cons_append, List.all_cons, Bool.and_eq_true, decide_eq_true_eq, List.length_map] at hZ
    rw [h3, ← hlen]
    refine Nat.le_trans (Nat.mul_le_mul_right _ (Nat.le_add_right _ _)) hZ.1
theorem big_rec {n : Nat} (h : n * Tryd.prog.bytesOf 37 ≤ reachBytes) : n ≤ 4398046511103 := by
  have hb : Tryd.prog.bytesOf 37 = 32 := by kernel_rfl
  rw [hb] at h
  unfold reachBytes at h
  omega
theorem jonce_c (F : Heap) (hF : TabF F) (v : Value) (l : List Jr.Rec) (hv : Jr.Row F v l) (hl : l.length ≤ 4398046511103) (hr : ∀ r ∈ l, r.ok) (u cut : Int) (hc : -9223372036854775808 ≤ cut ∧ cut ≤ 9223372036854775807) :
    NCall Tryd.prog 4 [.hs v l.length, .int .i64 u, .int .i64 cut] [hpB F] fun r _ => r = .bool true := by
  have hok0 := hv.ok
  have m1 : NCall Tryd.prog 12 [.hs v l.length] [hpB F] fun r m => ∃ F1 w1, r = .hs w1 l.length ∧ m = [hpB F1] ∧ F.le F1 ∧ SlOk w1 l.length ∧ NCall Tryd.prog 16 [.hs w1 l.length] [hpB F1] (fun r m => r = Jr.res (Jr.replay Jr.zero 0 l) ∧ m = [hpB F1]) :=
    (mine_c F v l hv hl).mono fun r m ⟨F1, w1, h1, h2, h3, h4⟩ => ⟨F1, w1, h2, h3, h1, h4.ok, replay36_c F1 w1 l h4 hl hr⟩
  by_cases hg : l.length ≤ 100 ∧ (Jr.replay Jr.zero 0 l).2.2 = true ∧ 0 ≤ cut ∧ cut ≤ l.length
  rotate_left
  · refine ncall_of Tryd.func4 rfl (by decide) ?_
    have hrb : (if (Jr.replay Jr.zero 0 l).2.2 = true then (0 : Int) else 5) = 0 → (Jr.replay Jr.zero 0 l).2.2 = true := fun h => by
      cases hb : (Jr.replay Jr.zero 0 l).2.2 with
      | true => rfl
      | false => rw [hb] at h; exact absurd h (by decide)
    simp only [Jr.res] at m1
    generalize (if (Jr.replay Jr.zero 0 l).2.2 = true then (0 : Int) else 5) = er at *
    generalize (Jr.replay Jr.zero 0 l).1 = sx at *
    generalize (Jr.replay Jr.zero 0 l).2.1 = nx at *
    simp only [Jr.St.av] at m1
    (repeat' (first | (with_reducible first|refine z0 ?_|refine z1 ?_|refine z2 ?_|refine z3 ?_|refine z4 ?_|refine z5 ?_|refine z6 ?_|refine z7 ?_|refine z8 ?_|refine z9 ?_|refine z10 ?_|refine z11 ?_|refine z12 ?_|refine z13 ?_|refine z14 ?_|refine z15 ?_|refine z16 ?_|refine z17 ?_|refine z18 ?_|refine z19 ?_|refine z20 ?_|refine z21 ?_|refine z22 ?_|refine z23 ?_|refine z24 ?_) | (((with_reducible first|refine z25 ?_|refine z26 ?_|refine z27 ?_|refine z28 ?_);intro K hK;(conv=>whnf))) | (with_reducible first|(refine hK _ _ ?_;clear hK K)|(refine hA ?_;clear hA hB A B)|(refine hB ?_;clear hA hB A B)|(refine hK _ ?_;clear hK K)) | ((with_reducible refine z29 ?_);intro A B hA hB;(conv=>whnf)) | (refine z30 (by decide) ?_) | ((first|refine z31 rfl ?_|refine z32 rfl ?_|refine z33 rfl ?_);intro K hK;(conv=>whnf)) | (refine z34 (by kernel_rfl) (by kernel_rfl) ?_) | ((with_reducible refine NCall.isF 12 ?_); (refine NCall.subw [0] _ _ (m1) rfl (by decide) rfl ?_; rintro _ _ ⟨F1, w1, rfl, rfl, hle, hokw, hre⟩; refine ⟨Nat.le_of_ble_eq_true rfl, _, rfl, ?_⟩; (conv=>whnf))) | ((with_reducible refine NCall.isF 16 ?_); (refine NCall.subw [0] _ _ (hre) rfl (by decide) rfl ?_; rintro _ _ ⟨rfl, rfl⟩; refine ⟨Nat.le_of_ble_eq_true rfl, _, rfl, ?_⟩; (conv=>whnf))) | ((with_reducible refine NCall.isF 11 ?_); (refine NCall.subw [0] _ _ (awake36_c _ (hF.mono hle)) rfl (by decide) rfl ?_; rintro _ _ ⟨rfl, rfl⟩; refine ⟨Nat.le_of_ble_eq_true rfl, _, rfl, ?_⟩; (conv=>whnf))) | (((with_reducible first|refine NV.quo ?s ?_|refine NV.rem ?s ?_|refine NV.i64 ?s ?_|refine NV.u32 ?s ?_|refine NV.u8 ?s ?_|refine NV.u64 ?s ?_);case s=>omega)<;>(conv=>whnf)) | ((with_reducible first|refine NV.divk ?_|refine NV.modk ?_|refine NN.lit ?_|refine NN.cast ?_|refine NN.a1 ?_|refine NN.a2 ?_|refine NN.a3 ?_|refine NN.a4 ?_|refine NN.a5 ?_|refine NN.a6 ?_|refine NV.keep ?_|refine NN.keep ?_|refine NS.keep ?_|refine NIf.not_ ?_)<;>(conv=>whnf)) | (((with_reducible refine NH.mk ?s ?_);case s=>(and_intros <;> first | with_reducible rfl | omega | assumption | exact Nat.le_of_ble_eq_true rfl | (simp only [List.length_append, List.length_cons, List.length_nil]; omega) | rfl))<;>(conv=>whnf)) | (((with_reducible refine NIf.decY ?s ?_);case s=>first|with_reducible rfl|assumption|omega)<;>(conv=>whnf)) | (((with_reducible refine NIf.decN ?s ?_);case s=>first|with_reducible rfl|assumption|omega)<;>(conv=>whnf)) | (((with_reducible refine NIf.yes ?s ?_);case s=>first|rfl|assumption)<;>(conv=>whnf)) | (((with_reducible refine NIf.no ?s ?_);case s=>first|rfl|assumption)<;>(conv=>whnf)) | (((with_reducible refine NLd.of (by with_reducible assumption) ?_))<;>(conv=>whnf)) | ((refine NFlat_iff.2 ⟨⟨?s1,?s2⟩,?_⟩;(case s1=>decide +kernel);(case s2=>decide +kernel))<;>(conv=>whnf)) | ((with_reducible first|refine NIf.dec (fun _=>?_) (fun _=>?_)|refine NIf.both (fun _=>?_) (fun _=>?_))<;>(conv=>whnf)) | ((intro _;skip)<;>(conv=>whnf))))
    all_goals first
      | rfl
      | (exfalso; exact hg ⟨by omega, hrb (by omega), by omega, by omega⟩)
  · obtain ⟨hl100, hgood, hc0, hcl⟩ := hg
    obtain ⟨c, rfl⟩ := Int.eq_ofNat_of_zero_le hc0
    have hcn : c ≤ l.length := by omega
    obtain ⟨hinv, _⟩ := Jr.inv_replay l [] Jr.zero 0 Jr.inv_zero (by simp; omega) hgood
    rw [List.nil_append] at hinv
    obtain ⟨f1, f2, f3, f4, f5, f6⟩ := Jr.fate_once hinv u
    have htk := Jr.replay_take l Jr.zero 0 c hcn hgood
    have hlc : ((l.drop 0).take (c - 0)).length = c := by simp; omega
    have ht : Jr.replay Jr.zero 0 ((l.drop 0).take (c - 0)) = ((Jr.replay Jr.zero 0 (l.take c)).1, c, true) := by
      rw [List.drop_zero, Nat.sub_zero]
      refine Prod.ext rfl ?_
      rw [htk, Nat.zero_add]
    have hr2 : ∀ r ∈ (l.drop 0).take (c - 0), r.ok := fun r h => hr r (List.mem_of_mem_drop (List.mem_of_mem_take h))
    have hres : Jr.res (Jr.replay Jr.zero 0 l) = .tup [.agg (Jr.replay Jr.zero 0 l).1.av, .int .i64 (Jr.replay Jr.zero 0 l).2.1, .int .i64 0] := by
      unfold Jr.res; rw [hgood]; rfl
    have hres2 : Jr.res (Jr.replay Jr.zero 0 ((l.drop 0).take (c - 0))) = .tup [.agg (Jr.replay Jr.zero 0 (l.take c)).1.av, .int .i64 c, .int .i64 0] := by
      unfold Jr.res; rw [ht]; rfl
    rw [hres] at m1
    -- the second: the first c records
    have m2 : ∀ F1, F.le F1 → NCall Tryd.prog 12 [.hs (cutSl v 4 0 c) (c - 0)] [hpB F1] fun r m => ∃ F2 w2, r = .hs w2 c ∧ m = [hpB F2] ∧ F.le F2 ∧ NCall Tryd.prog 16 [.hs w2 c] [hpB F2] (fun r m => r = .tup [.agg (Jr.replay Jr.zero 0 (l.take c)).1.av, .int .i64 c, .int .i64 0] ∧ m = [hpB F2]) ∧
        NCall Tryd.prog 20 [.hs v l.length, .int .i64 u, .int .i64 1] [hpB F2] (fun r m => r = .int .i64 (Jr.count l u 1 : Nat) ∧ m = [hpB F2]) ∧
        NCall Tryd.prog 20 [.hs v l.length, .int .i64 u, .int .i64 3] [hpB F2] (fun r m => r = .int .i64 (Jr.count l u 3 : Nat) ∧ m = [hpB F2]) ∧
        NCall Tryd.prog 20 [.hs v l.length, .int .i64 u, .int .i64 4] [hpB F2] (fun r m => r = .int .i64 (Jr.count l u 4 : Nat) ∧ m = [hpB F2]) ∧
        NCall Tryd.prog 20 [.hs v l.length, .int .i64 u, .int .i64 5] [hpB F2] (fun r m => r = .int .i64 (Jr.count l u 5 : Nat) ∧ m = [hpB F2]) ∧
        NCall Tryd.prog 20 [.hs v l.length, .int .i64 u, .int .i64 6] [hpB F2] (fun r m => r = .int .i64 (Jr.count l u 6 : Nat) ∧ m = [hpB F2]) ∧
        NCall Tryd.prog 12 [.hs v l.length] [hpB F2] (fun r m => ∃ F3 w3, r = .hs w3 l.length ∧ m = [hpB F3] ∧ NCall Tryd.prog 18 [.hs w3 l.length, .int .i64 u] [hpB F3] (fun r m => r = .int .i64 (Jr.fate l u) ∧ m = [hpB F3]) ∧ NCall Tryd.prog 11 [] [hpB F3] fun r m => r = .bool true ∧ m = [hpB F3]) := fun F1 hle => by
      have hv1 : Jr.Row F1 v l := hv.mono hle fun _ _ h => h
      have hcut := hv1.cut (lo := 0) (hi := c) (Nat.zero_le _) hcn
      refine (NCall.pre (args := [.hs (cutSl v 4 0 c) (c - 0)]) (m := [hpB F1]) (mine_c F1 (cutSl v 4 0 c) ((l.drop 0).take (c - 0)) hcut (by omega)) rfl (MemFits.rfl_ _)).mono fun r m ⟨F2, w2, h1, h2, h3, h4⟩ => ?_
      have hle2 := hle.trans h1
      have hv2 : Jr.Row F2 v l := hv.mono hle2 fun _ _ h => h
      have hq := replay36_c F2 w2 _ h4 (by omega) hr2
      rw [hres2, hlc] at hq
      refine ⟨F2, w2, by rw [h2, hlc], h3, hle2, hq, count36_c F2 v l hv2 hl u 1, count36_c F2 v l hv2 hl u 3, count36_c F2 v l hv2 hl u 4, count36_c F2 v l hv2 hl u 5, count36_c F2 v l hv2 hl u 6, ?_⟩
      exact (mine_c F2 v l hv2 hl).mono fun r m ⟨F3, w3, h5, h6, h7, h8⟩ => ⟨F3, w3, h6, h7, fate36_c F3 w3 l h8 hl u, awake36_c F3 (hF.mono (hle2.trans h5))⟩
    generalize (Jr.replay Jr.zero 0 l).1 = sx at *
    generalize (Jr.replay Jr.zero 0 l).2.1 = nx at *
    generalize (Jr.replay Jr.zero 0 (l.take c)).1 = sy at *
    generalize Jr.fate l u = ft at *
    generalize Jr.count l u 1 = n1 at *
    generalize Jr.count l u 3 = n3 at *
    generalize Jr.count l u 4 = n4 at *
    generalize Jr.count l u 5 = n5 at *
    generalize Jr.count l u 6 = n6 at *
    clear hinv htk ht hres hres2 hgood hr hr2
    obtain ⟨x0, x1, x2, x3, x4, x5, x6, x7, x8⟩ := sx
    obtain ⟨y0, y1, y2, y3, y4, y5, y6, y7, y8⟩ := sy
    simp only [Jr.St.av] at m1 m2
    dsimp only at f1 f2
    refine ncall_of Tryd.func4 rfl (by decide) ?_
    (repeat' (first | (with_reducible first|refine z0 ?_|refine z1 ?_|refine z2 ?_|refine z3 ?_|refine z4 ?_|refine z5 ?_|refine z6 ?_|refine z7 ?_|refine z8 ?_|refine z9 ?_|refine z10 ?_|refine z11 ?_|refine z12 ?_|refine z13 ?_|refine z14 ?_|refine z15 ?_|refine z16 ?_|refine z17 ?_|refine z18 ?_|refine z19 ?_|refine z20 ?_|refine z21 ?_|refine z22 ?_|refine z23 ?_|refine z24 ?_) | (((with_reducible first|refine z25 ?_|refine z26 ?_|refine z27 ?_|refine z28 ?_);intro K hK;(conv=>whnf))) | (with_reducible first|(refine hK _ _ ?_;clear hK K)|(refine hA ?_;clear hA hB A B)|(refine hB ?_;clear hA hB A B)|(refine hK _ ?_;clear hK K)) | ((with_reducible refine z29 ?_);intro A B hA hB;(conv=>whnf)) | (refine z30 (by decide) ?_) | ((first|refine z31 rfl ?_|refine z32 rfl ?_|refine z33 rfl ?_);intro K hK;(conv=>whnf)) | (refine z34 (by kernel_rfl) (by kernel_rfl) ?_) | ((with_reducible refine NCall.isF 12 ?_); (refine NCall.subw [0] _ _ (m1) rfl (by decide) rfl ?_; rintro _ _ ⟨F1, w1, rfl, rfl, hle, hokw, hre⟩; refine ⟨Nat.le_of_ble_eq_true rfl, _, rfl, ?_⟩; (conv=>whnf))) | ((with_reducible refine NCall.isF 16 ?_); (refine NCall.subw [0] _ _ (hre) rfl (by decide) rfl ?_; rintro _ _ ⟨rfl, rfl⟩; refine ⟨Nat.le_of_ble_eq_true rfl, _, rfl, ?_⟩; (conv=>whnf))) | ((with_reducible refine NCall.isF 12 ?_); (refine NCall.subw [0] _ _ (m2 _ hle) rfl (by decide) rfl ?_; rintro _ _ ⟨F2, w2, rfl, rfl, hle2, hre2, d1, d3, d4, d5, d6, hm3⟩; refine ⟨Nat.le_of_ble_eq_true rfl, _, rfl, ?_⟩; (conv=>whnf))) | ((with_reducible refine NCall.isF 16 ?_); (refine NCall.subw [0] _ _ (hre2) rfl (by decide) rfl ?_; rintro _ _ ⟨rfl, rfl⟩; refine ⟨Nat.le_of_ble_eq_true rfl, _, rfl, ?_⟩; (conv=>whnf))) | ((with_reducible refine NCall.isF 20 ?_); (refine NCall.subw [0] _ _ (d1) rfl (by decide) rfl ?_; rintro _ _ ⟨rfl, rfl⟩; refine ⟨Nat.le_of_ble_eq_true rfl, _, rfl, ?_⟩; (conv=>whnf))) | ((with_reducible refine NCall.isF 20 ?_); (refine NCall.subw [0] _ _ (d3) rfl (by decide) rfl ?_; rintro _ _ ⟨rfl, rfl⟩; refine ⟨Nat.le_of_ble_eq_true rfl, _, rfl, ?_⟩; (conv=>whnf))) | ((with_reducible refine NCall.isF 20 ?_); (refine NCall.subw [0] _ _ (d4) rfl (by decide) rfl ?_; rintro _ _ ⟨rfl, rfl⟩; refine ⟨Nat.le_of_ble_eq_true rfl, _, rfl, ?_⟩; (conv=>whnf))) | ((with_reducible refine NCall.isF 20 ?_); (refine NCall.subw [0] _ _ (d5) rfl (by decide) rfl ?_; rintro _ _ ⟨rfl, rfl⟩; refine ⟨Nat.le_of_ble_eq_true rfl, _, rfl, ?_⟩; (conv=>whnf))) | ((with_reducible refine NCall.isF 20 ?_); (refine NCall.subw [0] _ _ (d6) rfl (by decide) rfl ?_; rintro _ _ ⟨rfl, rfl⟩; refine ⟨Nat.le_of_ble_eq_true rfl, _, rfl, ?_⟩; (conv=>whnf))) | ((with_reducible refine NCall.isF 12 ?_); (refine NCall.subw [0] _ _ (hm3) rfl (by decide) rfl ?_; rintro _ _ ⟨F3, w3, rfl, rfl, hfa, haw⟩; refine ⟨Nat.le_of_ble_eq_true rfl, _, rfl, ?_⟩; (conv=>whnf))) | ((with_reducible refine NCall.isF 18 ?_); (refine NCall.subw [0] _ _ (hfa) rfl (by decide) rfl ?_; rintro _ _ ⟨rfl, rfl⟩; refine ⟨Nat.le_of_ble_eq_true rfl, _, rfl, ?_⟩; (conv=>whnf))) | ((with_reducible refine NCall.isF 11 ?_); (refine NCall.subw [0] _ _ (haw) rfl (by decide) rfl ?_; rintro _ _ ⟨rfl, rfl⟩; refine ⟨Nat.le_of_ble_eq_true rfl, _, rfl, ?_⟩; (conv=>whnf))) | (((with_reducible first|refine NV.quo ?s ?_|refine NV.rem ?s ?_|refine NV.i64 ?s ?_|refine NV.u32 ?s ?_|refine NV.u8 ?s ?_|refine NV.u64 ?s ?_);case s=>omega)<;>(conv=>whnf)) | ((with_reducible first|refine NV.divk ?_|refine NV.modk ?_|refine NN.lit ?_|refine NN.cast ?_|refine NN.a1 ?_|refine NN.a2 ?_|refine NN.a3 ?_|refine NN.a4 ?_|refine NN.a5 ?_|refine NN.a6 ?_|refine NV.keep ?_|refine NN.keep ?_|refine NS.keep ?_|refine NIf.not_ ?_)<;>(conv=>whnf)) | (((with_reducible refine NH.mk ?s ?_);case s=>(and_intros <;> first | with_reducible rfl | omega | assumption | exact Nat.le_of_ble_eq_true rfl | (simp only [List.length_append, List.length_cons, List.length_nil]; omega) | rfl))<;>(conv=>whnf)) | (((with_reducible refine NIf.decY ?s ?_);case s=>first|with_reducible rfl|assumption|omega)<;>(conv=>whnf)) | (((with_reducible refine NIf.decN ?s ?_);case s=>first|with_reducible rfl|assumption|omega)<;>(conv=>whnf)) | (((with_reducible refine NIf.yes ?s ?_);case s=>first|rfl|assumption)<;>(conv=>whnf)) | (((with_reducible refine NIf.no ?s ?_);case s=>first|rfl|assumption)<;>(conv=>whnf)) | (((with_reducible refine NLd.of (by with_reducible assumption) ?_))<;>(conv=>whnf)) | ((refine NFlat_iff.2 ⟨⟨?s1,?s2⟩,?_⟩;(case s1=>decide +kernel);(case s2=>decide +kernel))<;>(conv=>whnf)) | ((with_reducible first|refine NIf.dec (fun _=>?_) (fun _=>?_)|refine NIf.both (fun _=>?_) (fun _=>?_))<;>(conv=>whnf)) | ((intro _;skip)<;>(conv=>whnf))))
    all_goals first
      | rfl
      | (exfalso; omega)
      | (exfalso; rcases f1 with f1 | f1 <;> simp_all; done)
      | skip
end Go.Proofs.YtokpkddeijfjjaaDoor
