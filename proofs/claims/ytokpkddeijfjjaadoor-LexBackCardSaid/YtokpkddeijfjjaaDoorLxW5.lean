/-
  The lexer: the chapter's example; blanks more change nothing.
-/
import Derived.Test.YtokpkddeijfjjaaDoorLxW4
namespace Go.Proofs.YtokpkddeijfjjaaDoor
open Go.Sx
set_option maxRecDepth 20000
set_option linter.unusedSimpArgs false
set_option linter.unusedVariables false
set_option linter.unusedVariables false
theorem Lx.ex_toks : Lx.toks [100, 115, 116, 58, 61, 51] = some [(⟨1, 0, [100, 115, 116]⟩, [100, 115, 116, 58, 61, 51]), (⟨3, 0, [58, 61]⟩, [58, 61, 51]), (⟨2, 3, []⟩, [51])] := by
  have s1 : Lx.skip [100, 115, 116, 58, 61, 51] = [100, 115, 116, 58, 61, 51] := Lx.skip_id (by decide) (by decide)
  have s2 : Lx.skip [58, 61, 51] = [58, 61, 51] := Lx.skip_id (by decide) (by decide)
  have s3 : Lx.skip [51] = [51] := Lx.skip_id (by decide) (by decide)
  have s4 : Lx.skip [] = [] := Lx.skip_nil rfl
  have t4 : Lx.toks [] = some [] := Lx.toks_nil s4
  have t3 := Lx.toks_cons (t := [51]) (b := ⟨2, 3, []⟩) (n := 1) (by rw [s3]; simp) (by rw [s3]; rfl)
  have t2 := Lx.toks_cons (t := [58, 61, 51]) (b := ⟨3, 0, [58, 61]⟩) (n := 2) (by rw [s2]; simp) (by rw [s2]; rfl)
  have t1 := Lx.toks_cons (t := [100, 115, 116, 58, 61, 51]) (b := ⟨1, 0, [100, 115, 116]⟩) (n := 3) (by rw [s1]; simp) (by rw [s1]; rfl)
  rw [s3, show List.drop 1 [(51 : UInt8)] = [] from rfl, t4] at t3
  rw [s2, show List.drop 2 [(58 : UInt8), 61, 51] = [51] from rfl, t3] at t2
  rw [s1, show List.drop 3 [(100 : UInt8), 115, 116, 58, 61, 51] = [58, 61, 51] from rfl, t2] at t1
  exact t1
/-- Lex, of a text that is good. -/
theorem lex_good (F : Heap) (tx : List UInt8) (hs : tx.length ≤ 4000) (L : List (Lx.B × List UInt8)) (hL : Lx.toks tx = some L) (hl : L.length ≤ 500) : NCall Tryd.prog 22 [.str tx] [hpB F] fun r m =>
    ∃ F' v, F.le F' ∧ m = [hpB F'] ∧ r = .tup [.hs v (Lx.res tx L).length, .int .i64 0, .int .i64 0] ∧ RowF F' 4 (fun x vs => vs = Lx.tokV x) v (Lx.res tx L) :=
  (lex_c F tx hs).mono fun r m h => by
    rcases h with ⟨L', F', v, h1, h2, h3, h4, h5, h6⟩ | ⟨h1, _⟩
    · rw [hL] at h1
      injection h1 with h1
      subst h1
      exact ⟨F', v, h3, h4, h5, h6⟩
    · exact (h1 ⟨L, hL, hl⟩).elim
theorem lex_bad (F : Heap) (tx : List UInt8) (hs : tx.length ≤ 4000) (hb : ¬ Lx.good tx) : NCall Tryd.prog 22 [.str tx] [hpB F] fun r m =>
    ∃ at_ e : Int, e ≠ 0 ∧ m = [hpB F] ∧ r = .tup [.hs (.slice none 0 0) 0, .int .i64 at_, .int .i64 e] :=
  (lex_c F tx hs).mono fun r m h => by
    rcases h with ⟨L', F', v, h1, h2, h3, h4, h5, h6⟩ | ⟨_, h⟩
    · exact (hb ⟨L', h1, h2⟩).elim
    · exact h
theorem lex_any (F : Heap) (tx : List UInt8) (hs : tx.length ≤ 4000) : NCall Tryd.prog 22 [.str tx] [hpB F] fun r m =>
    ∃ F' v n at_ e, F.le F' ∧ m = [hpB F'] ∧ r = .tup [.hs v n, .int .i64 at_, .int .i64 e] :=
  (lex_c F tx hs).mono fun r m h => by
    rcases h with ⟨L', F', v, h1, h2, h3, h4, h5, h6⟩ | ⟨_, a, e, _, h1, h2⟩
    · exact ⟨F', v, _, _, _, h3, h4, h5⟩
    · exact ⟨F, _, _, _, _, F.le_refl, h1, h2⟩
theorem awake28_c (F : Heap) : NCall Tryd.prog 21 [] [hpB F] fun r m => ∃ F', F.le F' ∧ m = [hpB F'] ∧ r = .bool true := by
  have hl : NCall Tryd.prog 22 [.str [100, 115, 116, 58, 61, 51]] [hpB F] fun r m =>
      ∃ F' v, F.le F' ∧ m = [hpB F'] ∧ r = .tup [.hs v 4, .int .i64 0, .int .i64 0] ∧ SlOk v 4 ∧ F'.c ((addrOf v).add (1 * 4 + 2)) (.string ⟨#[58, 61]⟩) ∧ F'.c ((addrOf v).add (2 * 4 + 1)) (.int .i64 3) ∧
        F'.c ((addrOf v).add (3 * 4)) (.int .i64 4) ∧ F'.c ((addrOf v).add (3 * 4 + 1)) (.int .i64 0) ∧ F'.c ((addrOf v).add (3 * 4 + 2)) (.string ⟨#[]⟩) ∧ F'.c ((addrOf v).add (3 * 4 + 3)) (.int .i64 6) :=
    (lex_good F _ (by decide) _ Lx.ex_toks (by decide)).mono fun r m h => by
      obtain ⟨F', v, h1, h2, h3, h4⟩ := h
      obtain ⟨_, _, e1, _⟩ := h4.get4 (k := 1) (by decide)
      obtain ⟨_, e2, _, _⟩ := h4.get4 (k := 2) (by decide)
      obtain ⟨e3, e4, e5, e6⟩ := h4.get4 (k := 3) (by decide)
      exact ⟨F', v, h1, h2, h3, h4.ok, e1, e2, e3, e4, e5, e6⟩
  refine NCall.fits (K := fun r m => ∃ F', F.le F' ∧ MemFits m [hpB F'] ∧ r = .bool true) ?_ fun r m' ⟨F', h1, h2, h3⟩ => ⟨r, _, rfl, h2, F', h1, rfl, h3⟩
  refine ncall_of Tryd.func21 rfl (by decide) ?_
  (repeat' (first | (with_reducible first|refine z0 ?_|refine z1 ?_|refine z2 ?_|refine z3 ?_|refine z4 ?_|refine z5 ?_|refine z6 ?_|refine z7 ?_|refine z8 ?_|refine z9 ?_|refine z10 ?_|refine z11 ?_|refine z12 ?_|refine z13 ?_|refine z14 ?_|refine z15 ?_|refine z16 ?_|refine z17 ?_|refine z18 ?_|refine z19 ?_|refine z20 ?_|refine z21 ?_|refine z22 ?_|refine z23 ?_|refine z24 ?_) | (((with_reducible first|refine z25 ?_|refine z26 ?_|refine z27 ?_|refine z28 ?_);intro K hK;(conv=>whnf))) | (with_reducible first|(refine hK _ _ ?_;clear hK K)|(refine hA ?_;clear hA hB A B)|(refine hB ?_;clear hA hB A B)|(refine hK _ ?_;clear hK K)) | ((with_reducible refine z29 ?_);intro A B hA hB;(conv=>whnf)) | (refine z30 (by decide) ?_) | ((first|refine z31 rfl ?_|refine z32 rfl ?_|refine z33 rfl ?_);intro K hK;(conv=>whnf)) | (refine z34 (by kernel_rfl) (by kernel_rfl) ?_) | ((with_reducible refine NCall.isF 22 ?_); (refine NCall.subw [0] _ _ (hl) rfl (by decide) rfl ?_; rintro _ _ ⟨F', v, hF, rfl, rfl, hok, e1, e2, e3, e4, e5, e6⟩; refine ⟨Nat.le_of_ble_eq_true rfl, _, rfl, ?_⟩; (conv=>whnf))) | (((with_reducible first|refine NV.quo ?s ?_|refine NV.rem ?s ?_|refine NV.i64 ?s ?_|refine NV.u32 ?s ?_|refine NV.u8 ?s ?_|refine NV.u64 ?s ?_);case s=>omega)<;>(conv=>whnf)) | ((with_reducible first|refine NV.divk ?_|refine NV.modk ?_|refine NN.lit ?_|refine NN.cast ?_|refine NN.a1 ?_|refine NN.a2 ?_|refine NN.a3 ?_|refine NN.a4 ?_|refine NN.a5 ?_|refine NN.a6 ?_|refine NV.keep ?_|refine NN.keep ?_|refine NS.keep ?_|refine NIf.not_ ?_)<;>(conv=>whnf)) | (((with_reducible refine NH.mk ?s ?_);case s=>(and_intros <;> first | with_reducible rfl | omega | assumption | exact Nat.le_of_ble_eq_true rfl | (simp only [List.length_append, List.length_cons, List.length_nil]; omega) | rfl))<;>(conv=>whnf)) | (((with_reducible refine NIf.decY ?s ?_);case s=>first|with_reducible rfl|assumption|omega)<;>(conv=>whnf)) | (((with_reducible refine NIf.decN ?s ?_);case s=>first|with_reducible rfl|assumption|omega)<;>(conv=>whnf)) | (((with_reducible refine NIf.yes ?s ?_);case s=>first|rfl|assumption)<;>(conv=>whnf)) | (((with_reducible refine NIf.no ?s ?_);case s=>first|rfl|assumption)<;>(conv=>whnf)) | (((with_reducible refine NLd.of (by with_reducible assumption) ?_))<;>(conv=>whnf)) | ((refine NFlat_iff.2 ⟨⟨?s1,?s2⟩,?_⟩;(case s1=>decide +kernel);(case s2=>decide +kernel))<;>(conv=>whnf)) | ((with_reducible first|refine NIf.dec (fun _=>?_) (fun _=>?_)|refine NIf.both (fun _=>?_) (fun _=>?_))<;>(conv=>whnf)) | ((intro _;skip)<;>(conv=>whnf))))
  all_goals exact ⟨_, hF, MemFits.pre 1 rfl, rfl⟩
theorem Lx.res_b (tx : List UInt8) (L : List (Lx.B × List UInt8)) : (Lx.res tx L).map Lx.b = L.map (·.1) ++ [⟨4, 0, []⟩] := by
  unfold Lx.res
  rw [List.map_append, List.map_map]
  congr 1
theorem Lx.ins' {remark : List UInt8} (hr : ∀ c ∈ remark, c ≠ 10) (t : List UInt8) (L : List (B × List UInt8)) (hL : toks t = some L) (k : Nat) (hk : k < (res t L).length) :
    ∃ p u, t = p ++ u ∧ (res t L)[k].at_ = (p.length : Int) ∧ (k < L.length → ∃ L', toks (p ++ (blank remark ++ u)) = some L' ∧ L'.map (·.1) = L.map (·.1)) := by
  have hlen : (res t L).length = L.length + 1 := by simp [res]
  by_cases hlt : k < L.length
  · have e : (res t L)[k] = tokAt t L[k] := by
      refine (List.getElem_of_getElem? (l := res t L) (i := k) ?_).2
      unfold res
      rw [List.getElem?_append_left (by simpa using hlt)]
      simp [hlt]
    rcases hbu : L[k] with ⟨b, u⟩
    obtain ⟨p, L', h1, h2, h3⟩ := ins hr t.length t (Nat.le_refl _) L hL k b u (by rw [List.getElem?_eq_getElem hlt, hbu])
    refine ⟨p, u, h1, ?_, fun _ => ⟨L', h2, h3⟩⟩
    rw [e, hbu]
    show (t.length : Int) - u.length = _
    rw [h1, List.length_append]
    omega
  · have hk2 : k = L.length := by omega
    subst hk2
    refine ⟨t, [], by simp, ?_, fun h => absurd h (by omega)⟩
    have e : (res t L)[L.length] = ⟨4, 0, [], t.length⟩ := by
      refine (List.getElem_of_getElem? (l := res t L) (i := L.length) ?_).2
      unfold res
      rw [List.getElem?_append_right (by simp)]
      simp
    rw [e]
end Go.Proofs.YtokpkddeijfjjaaDoor
