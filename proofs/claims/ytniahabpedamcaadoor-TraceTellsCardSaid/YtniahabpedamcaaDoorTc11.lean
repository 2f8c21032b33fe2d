/-
  A trace's text, by the document.
-/
import Derived.Test.YtniahabpedamcaaDoorTc6
import Derived.Test.YtniahabpedamcaaDoorDig
namespace Go.Proofs.YtniahabpedamcaaDoor
open Go.Sx
set_option maxRecDepth 20000
set_option linter.unusedSimpArgs false
set_option linter.unusedVariables false
set_option maxHeartbeats 4000000
set_option linter.unusedVariables false
namespace Tc
def In (z : Int) : Prop := -9223372036854775808 ≤ z ∧ z ≤ 9223372036854775807
structure E.In (e : E) : Prop where
  real : Tc.In e.real
  u : Tc.In e.u
  sw : Tc.In e.sw
  x : Tc.In e.x
  y : Tc.In e.y
structure C.In (c : C) : Prop where
  id : Tc.In c.id
  fr : Tc.In c.fr
  to : Tc.In c.to
  at_ : Tc.In c.at_
  host : Tc.In c.host
  last : Tc.In c.last
  sws : ∀ z ∈ c.sws, Tc.In z
theorem in_zero : Tc.In 0 := ⟨by decide, by decide⟩
theorem new_in {e : E} (h : e.In) : (new e).In := ⟨h.u, h.x, h.y, h.real, in_zero, h.real, fun z hz => by cases hz⟩
theorem upd_in {e : E} {c : C} (h : e.In) (hc : c.In) : (upd e c).In := by
  refine ⟨hc.id, hc.fr, hc.to, hc.at_, ?_, h.real, fun z hz => ?_⟩
  · unfold upd
    dsimp only
    split
    · exact h.x
    · exact hc.host
  · unfold upd at hz
    dsimp only at hz
    split at hz
    · rcases List.mem_append.1 hz with hz | hz
      · exact hc.sws z hz
      · rw [List.mem_singleton.1 hz]; exact h.sw
    · exact hc.sws z hz
theorem step_in {out : List C} {e : E} (h : e.In) (ho : ∀ c ∈ out, c.In) : ∀ c ∈ step out e, c.In := by
  rcases step_cases out e with ⟨_, h1⟩ | ⟨_, h1⟩ | ⟨l, k, c0, _, _, _, h2, _, _, h1⟩ <;> rw [h1] <;> intro c hc
  · rcases List.mem_append.1 hc with hc | hc
    · exact ho c hc
    · rw [List.mem_singleton.1 hc]; exact new_in h
  · exact ho c hc
  · rcases List.mem_or_eq_of_mem_set hc with hc | rfl
    · exact ho c hc
    · exact upd_in h (ho c0 (List.mem_of_getElem? h2))
theorem tr_in {l : List E} (h : ∀ e ∈ l, e.In) : ∀ c ∈ tr l, c.In := by
  have : ∀ n, n ≤ l.length → ∀ c ∈ tr (l.take n), c.In := fun n => by
    induction n with
    | zero => exact fun _ c hc => by cases hc
    | succ n ih =>
      intro hn
      rw [List.take_succ_eq_append_getElem (by omega), tr_snoc]
      exact step_in (h _ (List.getElem_mem _)) (ih (by omega))
  have h2 := this l.length (Nat.le_refl _)
  rwa [List.take_length] at h2
def head (c : C) : List UInt8 := Lib.itoa c.id ++ [58, 32] ++ Lib.itoa c.fr ++ [62] ++ Lib.itoa c.to ++ [32, 97, 116, 32] ++ Lib.itoa c.at_ ++ [58]
def way (l : List Int) : List UInt8 := l.flatMap fun z => [32] ++ Lib.itoa z
def foot (c : C) : List UInt8 :=
  if c.end_ = 3 then [32, 103, 111, 110, 101, 32] ++ Lib.itoa c.host ++ [32, 97, 116, 32] ++ Lib.itoa c.last
  else if c.end_ = 4 then [32, 100, 114, 111, 112, 112, 101, 100, 32, 97, 116, 32] ++ Lib.itoa c.last
  else [32, 111, 110, 32, 105, 116, 115, 32, 119, 97, 121]
def txt (c : C) : List UInt8 := head c ++ way c.sws ++ foot c
theorem itoa_len {z : Int} (h : Tc.In z) : (Lib.itoa z).length ≤ 21 := Lib.itoa_length_le z h.1 h.2
theorem head_len {c : C} (h : c.In) : (head c).length ≤ 100 := by
  have h1 := itoa_len h.id
  have h2 := itoa_len h.fr
  have h3 := itoa_len h.to
  have h4 := itoa_len h.at_
  unfold head
  simp only [List.length_append, List.length_cons, List.length_nil]
  omega
theorem way_next (l : List Int) (z : Int) : way (l ++ [z]) = way l ++ [32] ++ Lib.itoa z := by unfold way; rw [List.flatMap_append]; simp
theorem way_len {l : List Int} (h : ∀ z ∈ l, Tc.In z) : (way l).length ≤ l.length * 22 := by
  induction l with
  | nil => exact Nat.le_refl _
  | cons z l ih =>
    have h1 := itoa_len (h z (List.mem_cons_self ..))
    have h2 := ih fun y hy => h y (List.mem_cons_of_mem _ hy)
    unfold way at *
    rw [List.flatMap_cons]
    simp only [List.length_append, List.length_cons, List.length_nil]
    omega
end Tc
theorem reftext41_c (F : Heap) (c : Tc.C) (v : Value) (hv : Tc.IRow F v c.sws) (hl : c.sws.length ≤ 1000) (hc : c.In) : NCall Tryd.prog 14 [.agg (Tc.cs c v)] [hpB F] fun r m => r = .str (Tc.txt c) ∧ m = [hpB F] := by
  refine NCall.fits (K := fun r m => r = .str (Tc.txt c) ∧ MemFits m [hpB F]) ?_ fun r m' h => ⟨r, _, rfl, h.2, h.1, rfl⟩
  have hok := hv.ok
  have c1 := digits_c c.id hc.id
  have c2 := digits_c c.fr hc.fr
  have c3 := digits_c c.to hc.to
  have c4 := digits_c c.at_ hc.at_
  have c5 := digits_c c.host hc.host
  have c6 := digits_c c.last hc.last
  have l1 := Tc.itoa_len hc.id
  have l2 := Tc.itoa_len hc.fr
  have l3 := Tc.itoa_len hc.to
  have l4 := Tc.itoa_len hc.at_
  have l5 := Tc.itoa_len hc.host
  have l6 := Tc.itoa_len hc.last
  have hhl := Tc.head_len hc
  have hsw := hc.sws
  have hhd : Tc.head c = Lib.itoa c.id ++ [58, 32] ++ Lib.itoa c.fr ++ [62] ++ Lib.itoa c.to ++ [32, 97, 116, 32] ++ Lib.itoa c.at_ ++ [58] := rfl
  have htx : Tc.txt c = Tc.head c ++ Tc.way c.sws ++ Tc.foot c := rfl
  have hft : Tc.foot c = if c.end_ = 3 then [32, 103, 111, 110, 101, 32] ++ Lib.itoa c.host ++ [32, 97, 116, 32] ++ Lib.itoa c.last else if c.end_ = 4 then [32, 100, 114, 111, 112, 112, 101, 100, 32, 97, 116, 32] ++ Lib.itoa c.last else [32, 111, 110, 32, 105, 116, 115, 32, 119, 97, 121] := rfl
  obtain ⟨id, fr, to, at_, sws, end_, host, last⟩ := c
  dsimp only at *
  refine ncall_of Tryd.func14 rfl (by decide) ?_
  unfold Tc.cs
  dsimp only
  generalize Tc.head _ = hd at *
  generalize Tc.txt _ = tx at *
  generalize Tc.foot _ = ft at *
  generalize Lib.itoa id = s1 at *
  generalize Lib.itoa fr = s2 at *
  generalize Lib.itoa to = s3 at *
  generalize Lib.itoa at_ = s4 at *
  generalize Lib.itoa host = s5 at *
  generalize Lib.itoa last = s6 at *
  (repeat' (first|(with_reducible first|(refine hK _ _ ?_;clear hK K)|(refine hK _ ?_;clear hK K))|((with_reducible refine gO ?_);(first|((with_reducible refine z25 ?_);intro K hK;(conv=>whnf))|(with_reducible refine z0 ?_)))|((with_reducible refine gP ?_);(first|((with_reducible refine z27 ?_);intro K hK;(conv=>whnf))|(with_reducible refine z24 ?_)))|((first|(with_reducible refine gN ?_;refine NN.a5 ?_)|((with_reducible refine gH ?_;refine NH.mk ?s ?_);case s=>(and_intros<;>first|with_reducible rfl|(simp only [List.length_append, List.length_cons, List.length_nil]; omega)))|((with_reducible refine gQ ?_);(first|((with_reducible refine NCallQ.isF 22 ?_);refine NCallQ.pureEq (c1) ?_)|((with_reducible refine NCallQ.isF 22 ?_);refine NCallQ.pureEq (c2) ?_)|((with_reducible refine NCallQ.isF 22 ?_);refine NCallQ.pureEq (c3) ?_)|((with_reducible refine NCallQ.isF 22 ?_);refine NCallQ.pureEq (c4) ?_)))|(with_reducible refine NS.keep ?_))<;>(conv=>whnf))|((with_reducible refine gX ?_);(first|(with_reducible first|refine z3 ?_|refine z4 ?_|refine z5 ?_)|(refine z34 (by kernel_rfl) (by kernel_rfl) ?_)))|(with_reducible first|refine z1 ?_|refine z2 ?_)|((with_reducible refine gF ?_);((refine z33 rfl ?_);intro K hK;(conv=>whnf)))|((intro _;skip)<;>(conv=>whnf))))
  rw [← hhd]
  refine st_auto (α := Nat) (fun i => i ≤ sws.length) (fun i => [.keep, .keep, .keep, .set (.str (hd ++ Tc.way (sws.take i))), .set (.int .i64 i), .keep, .keep, .keep, .keep, .keep, .keep, .keep, .keep, .keep, .keep, .keep, .keep, .keep, .keep, .keep, .keep, .keep, .keep, .keep, .drop, .drop, .drop, .drop, .drop, .drop, .drop, .drop, .drop, .drop, .drop, .drop, .drop, .drop, .drop, .drop, .keep, .keep, .keep, .keep, .keep, .keep, .keep, .keep, .keep, .keep, .keep, .keep, .keep, .keep, .keep, .keep, .keep, .keep, .keep, .keep, .keep, .keep, .keep, .keep, .keep]) (fun _ => []) (fun i => sws.length - i) 0 (Nat.zero_le _) ?_ (MemFits.eq rfl) ?_
  · repeat (first|exact FitsSl.nil|refine FitsSl.any ?_|refine FitsSl.cons (Fit1.str (by  simp [Tc.way])) ?_|refine FitsSl.cons (Fit1.int (by first | rfl | omega)) ?_|refine FitsSl.cons (Fit1.same (by intro h; cases h) (by with_reducible rfl)) ?_)
  (intro i hi; intro K hK; (conv=>whnf); refine hK _ _ ?_; clear hK K)
  have hwl := Tc.way_len (l := sws.take i) (fun z hz => hsw z (List.mem_of_mem_take hz))
  rw [List.length_take, Nat.min_eq_left hi] at hwl
  by_cases hlt : i < sws.length
  · have hx : sws[i]? = some sws[i] := List.getElem?_eq_getElem hlt
    have g0 := hv.get hx
    have hz := hsw _ (List.getElem_mem hlt)
    have hnx : Tc.way (sws.take (i + 1)) = Tc.way (sws.take i) ++ [32] ++ Lib.itoa sws[i] := by rw [List.take_add_one, hx, Option.toList_some, Tc.way_next]
    have cz := digits_c _ hz
    have lz := Tc.itoa_len hz
    generalize sws[i] = z at *
    generalize Tc.way (sws.take i) = wy at *
    generalize Lib.itoa z = sz at *
    (repeat' (first|(with_reducible first|(refine hK _ _ ?_;clear hK K)|(refine hA ?_;clear hA hB A B))|((with_reducible refine gO ?_);(first|((with_reducible refine z25 ?_);intro K hK;(conv=>whnf))|(with_reducible refine z0 ?_)))|((first|((with_reducible refine gV ?_);(((with_reducible refine NV.i64 ?s ?_);case s=>omega)))|((with_reducible refine gI ?_);(((with_reducible refine NIf.decY ?s ?_);case s=>omega)))|(with_reducible refine gN ?_;first|refine NN.cast ?_|refine NN.a2 ?_|refine NN.a5 ?_)|((with_reducible refine gH ?_;refine NH.mk ?s ?_);case s=>(and_intros<;>first|with_reducible rfl|omega|(simp only [List.length_append, List.length_cons, List.length_nil]; omega)))|((with_reducible refine gC ?_;refine NCall.isF 22 ?_);refine NCall.pureE (cz) ?_)|(with_reducible refine NS.keep ?_)|(with_reducible refine NLd.of (by with_reducible assumption) ?_))<;>(conv=>whnf))|((with_reducible refine gX ?_);(first|(with_reducible first|refine z3 ?_|refine z4 ?_|refine z5 ?_|refine z6 ?_)|((with_reducible refine z29 ?_);intro A B hA hB;(conv=>whnf))))|(with_reducible first|refine z1 ?_|refine z2 ?_|refine z9 ?_)))
    refine st_round (i + 1) hlt (by omega) ?_ (MemFits.eq rfl)
    repeat (first|exact FitsSl.nil|refine FitsSl.any ?_|refine FitsSl.cons (Fit1.str (by  rw [hnx]; simp only [List.append_assoc])) ?_|refine FitsSl.cons (Fit1.int (by first | rfl | omega)) ?_|refine FitsSl.cons (Fit1.str rfl) ?_|refine FitsSl.cons (Fit1.same (by intro h; cases h) (by with_reducible rfl)) ?_)
  · have hii : i = sws.length := by omega
    subst hii
    rw [List.take_length] at hwl ⊢
    generalize Tc.way sws = wy at *
    by_cases h3 : end_ = 3
    · rw [if_pos h3] at hft
      (repeat' (first|(with_reducible first|(refine hK _ _ ?_;clear hK K)|(refine hA ?_;clear hA hB A B)|(refine hB ?_;clear hA hB A B)|(refine hK _ ?_;clear hK K))|((with_reducible refine gO ?_);(first|((with_reducible refine z25 ?_);intro K hK;(conv=>whnf))|(with_reducible refine z0 ?_)))|((with_reducible refine gP ?_);(first|((with_reducible refine z27 ?_);intro K hK;(conv=>whnf))|(with_reducible refine z24 ?_)))|((first|((with_reducible refine gI ?_);(first|((with_reducible refine NIf.decY ?s ?_);case s=>assumption)|((with_reducible refine NIf.decN ?s ?_);case s=>omega)))|(with_reducible refine gN ?_;refine NN.a5 ?_)|((with_reducible refine gH ?_;refine NH.mk ?s ?_);case s=>(and_intros<;>first|with_reducible rfl|omega|(simp only [List.length_append, List.length_cons, List.length_nil]; omega)))|((with_reducible refine gQ ?_);(first|((with_reducible refine NCallQ.isF 22 ?_);refine NCallQ.pureEq (c5) ?_)|((with_reducible refine NCallQ.isF 22 ?_);refine NCallQ.pureEq (c6) ?_)))|(with_reducible refine NS.keep ?_))<;>(conv=>whnf))|((with_reducible refine gX ?_);(first|(with_reducible first|refine z3 ?_|refine z4 ?_|refine z7 ?_|refine z8 ?_)|((with_reducible refine z29 ?_);intro A B hA hB;(conv=>whnf))|(refine z34 (by kernel_rfl) (by kernel_rfl) ?_)))|(with_reducible first|refine z1 ?_|refine z2 ?_|refine z10 ?_|refine z11 ?_|refine z12 ?_|refine z19 ?_)|((with_reducible refine gR ?_);((refine z31 rfl ?_);intro K hK;(conv=>whnf)))))
      all_goals exact ⟨by rw [htx, hft]; simp only [List.append_assoc], MemFits.pre 1 rfl⟩
    · rw [if_neg h3] at hft
      by_cases h4 : end_ = 4
      · rw [if_pos h4] at hft
        (repeat' (first|(with_reducible first|(refine hK _ _ ?_;clear hK K)|(refine hA ?_;clear hA hB A B)|(refine hB ?_;clear hA hB A B)|(refine hK _ ?_;clear hK K))|((with_reducible refine gO ?_);(first|((with_reducible refine z25 ?_);intro K hK;(conv=>whnf))|(with_reducible refine z0 ?_)))|((first|((with_reducible refine gI ?_);(first|((with_reducible refine NIf.decY ?s ?_);case s=>assumption)|((with_reducible refine NIf.decN ?s ?_);case s=>first|assumption|omega)))|(with_reducible refine gN ?_;refine NN.a5 ?_)|((with_reducible refine gH ?_;refine NH.mk ?s ?_);case s=>(and_intros<;>first|with_reducible rfl|omega|(simp only [List.length_append, List.length_cons, List.length_nil]; omega)))|((with_reducible refine gC ?_;refine NCall.isF 22 ?_);refine NCall.pureE (c6) ?_)|(with_reducible refine NS.keep ?_))<;>(conv=>whnf))|((with_reducible refine gX ?_);(first|(with_reducible first|refine z3 ?_|refine z4 ?_|refine z6 ?_|refine z7 ?_|refine z8 ?_)|((with_reducible refine z29 ?_);intro A B hA hB;(conv=>whnf))))|(with_reducible first|refine z1 ?_|refine z2 ?_|refine z10 ?_|refine z11 ?_|refine z12 ?_|refine z19 ?_)|((with_reducible refine gR ?_);((refine z31 rfl ?_);intro K hK;(conv=>whnf)))))
        all_goals exact ⟨by rw [htx, hft]; simp only [List.append_assoc], MemFits.pre 1 rfl⟩
      · rw [if_neg h4] at hft
        (repeat' (first|(with_reducible first|(refine hK _ _ ?_;clear hK K)|(refine hB ?_;clear hA hB A B)|(refine hK _ ?_;clear hK K))|((with_reducible refine gO ?_);(first|((with_reducible refine z25 ?_);intro K hK;(conv=>whnf))|(with_reducible refine z0 ?_)))|((first|((with_reducible refine gI ?_);(((with_reducible refine NIf.decN ?s ?_);case s=>first|assumption|omega)))|(with_reducible refine gN ?_;refine NN.a5 ?_)|((with_reducible refine gH ?_;refine NH.mk ?s ?_);case s=>(and_intros<;>first|with_reducible rfl|omega|(simp only [List.length_append, List.length_cons, List.length_nil]; omega)))|(with_reducible refine NS.keep ?_))<;>(conv=>whnf))|((with_reducible refine gX ?_);(first|(with_reducible first|refine z3 ?_|refine z4 ?_|refine z6 ?_|refine z7 ?_|refine z8 ?_)|((with_reducible refine z29 ?_);intro A B hA hB;(conv=>whnf))))|(with_reducible first|refine z1 ?_|refine z2 ?_|refine z10 ?_|refine z11 ?_|refine z19 ?_)|((with_reducible refine gR ?_);((refine z31 rfl ?_);intro K hK;(conv=>whnf)))))
        all_goals exact ⟨by rw [htx, hft], MemFits.pre 1 rfl⟩
end Go.Proofs.YtniahabpedamcaaDoor


