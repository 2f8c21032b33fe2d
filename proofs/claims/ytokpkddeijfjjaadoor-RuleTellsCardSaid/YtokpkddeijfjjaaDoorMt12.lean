/-
  Matches: the document's meeting.
-/
import Derived.Test.YtokpkddeijfjjaaDoorMt11
namespace Go.Proofs.YtokpkddeijfjjaaDoor
open Go.Sx
set_option maxRecDepth 20000
set_option linter.unusedSimpArgs false
set_option linter.unusedVariables false
set_option linter.unusedVariables false
theorem draw_ns {P : Program} {Q : Post} {sl : List AV} {m : List Blk} {id : Nat} {l : List Oper} (_h0 : (l.all fun o => !isStore o) = true) (h1 : P.follows .mixedOrders = true) (h2 : Region.lexB .any l.toArray = true) (h : opsQ P l.toArray l sl m (normS Q)) : codeK P (.region id l.toArray true) sl m Q := z34 h1 h2 h
namespace Mt
def lay (a b f i g : Nat) : Nat := a ||| b % 2 ^ (if g < f then 8 else if g = f then i else 0)
def outC (p : Int) (a b : N) (f i : Nat) : List AV :=
  [.int .i64 p, .int .i64 (lay a.v0 b.v0 f i 0), .int .i64 (lay a.v1 b.v1 f i 1), .int .i64 (lay a.v2 b.v2 f i 2), .int .i64 (lay a.v3 b.v3 f i 3),
    .int .i64 (lay a.m0 b.m0 f i 0), .int .i64 (lay a.m1 b.m1 f i 1), .int .i64 (lay a.m2 b.m2 f i 2), .int .i64 (lay a.m3 b.m3 f i 3)]
theorem outC_get (p : Int) (a b : N) (i : Nat) : ∀ f, f < 4 → (outC p a b f i)[1 + f]? = some (.int .i64 (a.v f ||| b.v f % 2 ^ i : Nat)) ∧ (outC p a b f i)[5 + f]? = some (.int .i64 (a.m f ||| b.m f % 2 ^ i : Nat)) :=
  all4.2 ⟨⟨rfl, rfl⟩, ⟨rfl, rfl⟩, ⟨rfl, rfl⟩, rfl, rfl⟩
theorem outC_set (p : Int) (a b : N) (i j : Nat) : ∀ f, f < 4 → ((outC p a b f i).set (5 + f) (.int .i64 (a.m f ||| b.m f % 2 ^ j : Nat))).set (1 + f) (.int .i64 (a.v f ||| b.v f % 2 ^ j : Nat)) = outC p a b f j :=
  all4.2 ⟨rfl, rfl, rfl, rfl⟩
theorem lay_next {a b : Nat} (hb : b < 256) (f g : Nat) : lay a b f 8 g = lay a b (f + 1) 0 g := by
  unfold lay
  by_cases h : g < f
  · rw [if_pos h, if_pos (by omega)]
  · rw [if_neg h]
    by_cases h2 : g = f
    · rw [if_pos h2, if_pos (by omega)]
    · rw [if_neg h2, if_neg (by omega)]
      by_cases h3 : g = f + 1
      · rw [if_pos h3]
      · rw [if_neg h3]
theorem outC_next (p : Int) {a b : N} (hb : b.lt) (f : Nat) : outC p a b f 8 = outC p a b (f + 1) 0 := by
  obtain ⟨⟨h0, k0⟩, ⟨h1, k1⟩, ⟨h2, k2⟩, h3, k3⟩ := all4.1 hb
  simp only [N.v, N.m] at h0 h1 h2 h3 k0 k1 k2 k3
  simp only [outC, lay_next h0, lay_next h1, lay_next h2, lay_next h3, lay_next k0, lay_next k1, lay_next k2, lay_next k3]
theorem lay_zero (a b g : Nat) : lay a b 0 0 g = a := by
  unfold lay
  rw [if_neg (by omega)]
  split <;> simp [Nat.mod_one]
theorem lay_all {a b : Nat} (hb : b < 256) (g : Nat) (hg : g < 4) : lay a b 4 0 g = a ||| b := by
  unfold lay
  rw [if_pos hg, Nat.mod_eq_of_lt hb]
theorem outC_zero (p : Int) (a b : N) : outC p a b 0 0 = [.int .i64 p, .int .i64 a.v0, .int .i64 a.v1, .int .i64 a.v2, .int .i64 a.v3, .int .i64 a.m0, .int .i64 a.m1, .int .i64 a.m2, .int .i64 a.m3] := by
  simp only [outC, lay_zero]
theorem outC_all (p : Int) {a b : N} (hb : b.lt) (hp : p = max a.p b.p) : outC p a b 4 0 = (meet a b).toM.av := by
  obtain ⟨⟨h0, k0⟩, ⟨h1, k1⟩, ⟨h2, k2⟩, h3, k3⟩ := all4.1 hb
  simp only [N.v, N.m] at h0 h1 h2 h3 k0 k1 k2 k3
  simp only [outC, meet, N.toM, M.av, ← hp, lay_all h0 0 (by decide), lay_all h1 1 (by decide), lay_all h2 2 (by decide), lay_all h3 3 (by decide), lay_all k0 0 (by decide), lay_all k1 1 (by decide), lay_all k2 2 (by decide), lay_all k3 3 (by decide)]
/-- A value's bit laid in. -/
theorem val_step (va ma vb mb i : Nat) (ha : va < 256) (hma : ma < 256) (hb : vb < 256) (hmb : mb < 256) (hi : i < 8) (sa : Sub va ma) (sb : Sub vb mb) (hal : bt mb i = 1 → bt ma i = 1 → bt va i = bt vb i) :
    va ||| vb % 2 ^ (i + 1) = (va ||| vb % 2 ^ i) + (if bt mb i = 1 ∧ bt ma i = 0 then 2 ^ i * bt vb i else 0) := by
  rw [or_step va vb i ha hb hi]
  have h1 := (sub_bt va ma ha).1 sa i hi
  have h2 := (sub_bt vb mb hb).1 sb i hi
  have l1 := bt_lt va i
  have l2 := bt_lt vb i
  have l3 := bt_lt ma i
  have l4 := bt_lt mb i
  by_cases hv : bt vb i = 1
  · have hm := h2 hv
    by_cases hma1 : bt ma i = 1
    · have := hal hm hma1
      rw [if_neg (by omega), if_neg (by omega)]; rfl
    · rw [if_pos ⟨hv, by omega⟩, if_pos ⟨hm, by omega⟩, hv, Nat.mul_one]
  · rw [if_neg (fun h => hv h.1), show bt vb i = 0 by omega, Nat.mul_zero]
    split <;> rfl
end Mt
set_option maxHeartbeats 8000000 in
theorem refmeet_c (a b : Mt.N) (ha : a.ok) (hb : b.ok) : NCall Tryd.prog 73 [.agg a.toM.av, .agg b.toM.av] [] fun r _ => r = .tup [if Mt.meets a b then .agg (Mt.meet a b).toM.av else mtZ, .bool (decide (Mt.meets a b))] := by
  have hav : ∀ f, f < 4 → [AV.int .i64 a.p, .int .i64 a.v0, .int .i64 a.v1, .int .i64 a.v2, .int .i64 a.v3, .int .i64 a.m0, .int .i64 a.m1, .int .i64 a.m2, .int .i64 a.m3][1 + f]? = some (.int .i64 (a.v f)) ∧ [AV.int .i64 a.p, .int .i64 a.v0, .int .i64 a.v1, .int .i64 a.v2, .int .i64 a.v3, .int .i64 a.m0, .int .i64 a.m1, .int .i64 a.m2, .int .i64 a.m3][5 + f]? = some (.int .i64 (a.m f)) := all4.2 ⟨⟨rfl, rfl⟩, ⟨rfl, rfl⟩, ⟨rfl, rfl⟩, rfl, rfl⟩
  have hbv : ∀ f, f < 4 → [AV.int .i64 b.p, .int .i64 b.v0, .int .i64 b.v1, .int .i64 b.v2, .int .i64 b.v3, .int .i64 b.m0, .int .i64 b.m1, .int .i64 b.m2, .int .i64 b.m3][1 + f]? = some (.int .i64 (b.v f)) ∧ [AV.int .i64 b.p, .int .i64 b.v0, .int .i64 b.v1, .int .i64 b.v2, .int .i64 b.v3, .int .i64 b.m0, .int .i64 b.m1, .int .i64 b.m2, .int .i64 b.m3][5 + f]? = some (.int .i64 (b.m f)) := all4.2 ⟨⟨rfl, rfl⟩, ⟨rfl, rfl⟩, ⟨rfl, rfl⟩, rfl, rfl⟩
  have la := ha.lt
  have lb := hb.lt
  have q : Mt.meets a b ↔ (a.p = b.p ∨ a.p = -1 ∨ b.p = -1) ∧ ∀ f, f < 4 → ∀ i, i < 8 → Mt.bt (b.m f) i = 1 → Mt.bt (a.m f) i = 1 → Mt.bt (a.v f) i = Mt.bt (b.v f) i :=
    and_congr Iff.rfl (forall_congr' fun f => forall_congr' fun hf => Mt.alike_bt _ _ _ _ (la f hf).2)
  have pa := ha.1
  have pb := hb.1
  have hz0 := fun p => Mt.outC_zero p a b
  have hza := fun p (hp : p = max a.p b.p) => Mt.outC_all p (a := a) lb hp
  have hzg := fun p i f hf => Mt.outC_get p a b i f hf
  have hzs := fun p i j f hf => Mt.outC_set p a b i j f hf
  have hzn := fun p f => Mt.outC_next p (a := a) lb f
  have hzl : ∀ p f i, (Mt.outC p a b f i).length = 9 := fun _ _ _ => rfl
  refine ncall_of Tryd.func73 rfl (by decide) ?_
  have eb : b.toM.av = [.int .i64 b.p, .int .i64 b.v0, .int .i64 b.v1, .int .i64 b.v2, .int .i64 b.v3, .int .i64 b.m0, .int .i64 b.m1, .int .i64 b.m2, .int .i64 b.m3] := rfl
  have ea : a.toM.av = [.int .i64 a.p, .int .i64 a.v0, .int .i64 a.v1, .int .i64 a.v2, .int .i64 a.v3, .int .i64 a.m0, .int .i64 a.m1, .int .i64 a.m2, .int .i64 a.m3] := rfl
  rw [ea, eb]
  by_cases hq : a.p = b.p ∨ a.p = -1 ∨ b.p = -1
  rotate_left
  · (repeat' (first | (with_reducible first|refine z0 ?_|refine z1 ?_|refine z2 ?_|refine z3 ?_|refine z4 ?_|refine z5 ?_|refine z6 ?_|refine z7 ?_|refine z8 ?_|refine z9 ?_|refine z10 ?_|refine z11 ?_|refine z12 ?_|refine z13 ?_|refine z14 ?_|refine z15 ?_|refine z16 ?_|refine z17 ?_|refine z18 ?_|refine z19 ?_|refine z20 ?_|refine z21 ?_|refine z22 ?_|refine z23 ?_|refine z24 ?_) | (((with_reducible first|refine z25 ?_|refine z26 ?_|refine z27 ?_|refine z28 ?_);intro K hK;(conv=>whnf))) | (with_reducible first|(refine hK _ _ ?_;clear hK K)|(refine hA ?_;clear hA hB A B)|(refine hB ?_;clear hA hB A B)|(refine hK _ ?_;clear hK K)) | ((with_reducible refine z29 ?_);intro A B hA hB;(conv=>whnf)) | (refine z30 (by decide) ?_) | ((first|refine z31 rfl ?_|refine z32 rfl ?_|refine z33 rfl ?_);intro K hK;(conv=>whnf)) | (refine z34 (by kernel_rfl) (by kernel_rfl) ?_) | (((with_reducible first|refine NV.quo ?s ?_|refine NV.rem ?s ?_|refine NV.i64 ?s ?_|refine NV.u32 ?s ?_|refine NV.u8 ?s ?_|refine NV.u64 ?s ?_);case s=>omega)<;>(conv=>whnf)) | ((with_reducible first|refine NV.divk ?_|refine NV.modk ?_|refine NN.lit ?_|refine NN.cast ?_|refine NN.a1 ?_|refine NN.a2 ?_|refine NN.a3 ?_|refine NN.a4 ?_|refine NN.a5 ?_|refine NN.a6 ?_|refine NV.keep ?_|refine NN.keep ?_|refine NS.keep ?_|refine NIf.not_ ?_)<;>(conv=>whnf)) | (((with_reducible refine NH.mk ?s ?_);case s=>(and_intros <;> first | with_reducible rfl | omega | assumption | exact Nat.le_of_ble_eq_true rfl | (simp only [List.length_append, List.length_cons, List.length_nil]; omega) | rfl))<;>(conv=>whnf)) | (((with_reducible refine NIf.decY ?s ?_);case s=>first|with_reducible rfl|assumption|omega)<;>(conv=>whnf)) | (((with_reducible refine NIf.decN ?s ?_);case s=>first|with_reducible rfl|assumption|omega)<;>(conv=>whnf)) | (((with_reducible refine NIf.yes ?s ?_);case s=>first|rfl|assumption)<;>(conv=>whnf)) | (((with_reducible refine NIf.no ?s ?_);case s=>first|rfl|assumption)<;>(conv=>whnf)) | (((with_reducible refine NLd.of (by with_reducible assumption) ?_))<;>(conv=>whnf)) | ((refine NFlat_iff.2 ⟨⟨?s1,?s2⟩,?_⟩;(case s1=>decide +kernel);(case s2=>decide +kernel))<;>(conv=>whnf)) | ((with_reducible first|refine NIf.dec (fun _=>?_) (fun _=>?_)|refine NIf.both (fun _=>?_) (fun _=>?_))<;>(conv=>whnf)) | ((intro _;skip)<;>(conv=>whnf))))
    all_goals exact meetN (fun h => by have := (q.1 h).1; omega)
  apply st_share4
  case main =>
    intro key
    by_cases hq1 : a.p = -1 <;> by_cases hq2 : b.p = -1 <;> by_cases hq3 : a.p = b.p
    all_goals first | omega | skip
    all_goals (repeat' (first | (with_reducible first|refine z0 ?_|refine z1 ?_|refine z2 ?_|refine z3 ?_|refine z4 ?_|refine z5 ?_|refine z6 ?_|refine z7 ?_|refine z8 ?_|refine z9 ?_|refine z10 ?_|refine z11 ?_|refine z12 ?_|refine z13 ?_|refine z14 ?_|refine z15 ?_|refine z16 ?_|refine z17 ?_|refine z18 ?_|refine z19 ?_|refine z20 ?_|refine z21 ?_|refine z22 ?_|refine z23 ?_|refine z24 ?_) | (((with_reducible first|refine z25 ?_|refine z26 ?_|refine z27 ?_|refine z28 ?_);intro K hK;(conv=>whnf))) | (with_reducible first|(refine hK _ _ ?_;clear hK K)|(refine hA ?_;clear hA hB A B)|(refine hB ?_;clear hA hB A B)|(refine hK _ ?_;clear hK K)) | ((with_reducible refine z29 ?_);intro A B hA hB;(conv=>whnf)) | (refine z30 (by decide) ?_) | ((first|refine z31 rfl ?_|refine z32 rfl ?_|refine z33 rfl ?_);intro K hK;(conv=>whnf)) | (refine z34 (by kernel_rfl) (by kernel_rfl) ?_) | (((with_reducible first|refine NV.quo ?s ?_|refine NV.rem ?s ?_|refine NV.i64 ?s ?_|refine NV.u32 ?s ?_|refine NV.u8 ?s ?_|refine NV.u64 ?s ?_);case s=>omega)<;>(conv=>whnf)) | ((with_reducible first|refine NV.divk ?_|refine NV.modk ?_|refine NN.lit ?_|refine NN.cast ?_|refine NN.a1 ?_|refine NN.a2 ?_|refine NN.a3 ?_|refine NN.a4 ?_|refine NN.a5 ?_|refine NN.a6 ?_|refine NV.keep ?_|refine NN.keep ?_|refine NS.keep ?_|refine NIf.not_ ?_)<;>(conv=>whnf)) | (((with_reducible refine NH.mk ?s ?_);case s=>(and_intros <;> first | with_reducible rfl | omega | assumption | exact Nat.le_of_ble_eq_true rfl | (simp only [List.length_append, List.length_cons, List.length_nil]; omega) | rfl))<;>(conv=>whnf)) | (((with_reducible refine NIf.decY ?s ?_);case s=>first|with_reducible rfl|assumption|omega)<;>(conv=>whnf)) | (((with_reducible refine NIf.decN ?s ?_);case s=>first|with_reducible rfl|assumption|omega)<;>(conv=>whnf)) | (((with_reducible refine NIf.yes ?s ?_);case s=>first|rfl|assumption)<;>(conv=>whnf)) | (((with_reducible refine NIf.no ?s ?_);case s=>first|rfl|assumption)<;>(conv=>whnf)) | (((with_reducible refine NLd.of (by with_reducible assumption) ?_))<;>(conv=>whnf)) | ((refine NFlat_iff.2 ⟨⟨?s1,?s2⟩,?_⟩;(case s1=>decide +kernel);(case s2=>decide +kernel))<;>(conv=>whnf)) | ((with_reducible first|refine NIf.dec (fun _=>?_) (fun _=>?_)|refine NIf.both (fun _=>?_) (fun _=>?_))<;>(conv=>whnf)) | ((intro _;skip)<;>(conv=>whnf))))
    all_goals
      rename_i b1 b2 b3 b4
      refine st_loop (α := Nat) (fun f => f ≤ 4 ∧ ∀ g, g < f → ∀ i, i < 8 → Mt.bt (b.m g) i = 1 → Mt.bt (a.m g) i = 1 → Mt.bt (a.v g) i = Mt.bt (b.v g) i)
        (fun f => [.any, .any, .ptr 0 ⟨b1, 0, none⟩ 0, .ptr 1 ⟨b2, 0, none⟩ 0, .ptr 2 ⟨b3, 0, none⟩ 0, .bool false, .ptr 3 ⟨b4, 0, none⟩ 0, .int .i64 f, .any, .any, .any, .any, .any, .any, .any, .any, .any, .any, .any, .any, .any, .any, .any, .any, .any, .any, .any, .any, .any, .any, .any, .any, .any, .any, .any, .any, .any, .any, .any, .any, .any, .any, .any, .any, .any, .any, .any, .any, .any, .any, .any, .any, .any, .any, .any, .any, .any, .any, .any, .any, .any, .any, .any, .any, .any, .any, .any, .any, .any, .any, .any, .any, .any, .any, .any, .any, .any, .any, .any, .any, .any, .any, .any, .any, .any, .any, .any, .any, .any, .any, .any, .any, .any, .any, .any, .any, .any, .any, .any, .any, .any, .any, .any, .any, .any, .any, .any, .any, .any, .any, .any, .any])
        (fun f => [⟨⟨b1, 0, none⟩, [.int .i64 a.p, .int .i64 a.v0, .int .i64 a.v1, .int .i64 a.v2, .int .i64 a.v3, .int .i64 a.m0, .int .i64 a.m1, .int .i64 a.m2, .int .i64 a.m3], .var 57⟩, ⟨⟨b2, 0, none⟩, [.int .i64 b.p, .int .i64 b.v0, .int .i64 b.v1, .int .i64 b.v2, .int .i64 b.v3, .int .i64 b.m0, .int .i64 b.m1, .int .i64 b.m2, .int .i64 b.m3], .var 57⟩, ⟨⟨b3, 0, none⟩, [.int .i64 0, .int .i64 0, .int .i64 0, .int .i64 0, .int .i64 0, .int .i64 0, .int .i64 0, .int .i64 0, .int .i64 0], .var 57⟩, ⟨⟨b4, 0, none⟩, Mt.outC (max a.p b.p) a b f 0, .var 57⟩])
        (fun f => 4 - f) 0 ⟨by decide, fun g hg => absurd hg (Nat.not_lt_zero _)⟩ ?_ (MemFits.eq (by rw [hz0]; first | (rw [show max a.p b.p = b.p by omega]; rfl) | (rw [show max a.p b.p = a.p by omega]; rfl))) (key.is b1 b2 b3 b4)
      repeat (first | exact FitsSl.nil | refine FitsSl.any ?_ | refine FitsSl.cons (Fit1.int (by first | rfl | omega)) ?_ | refine FitsSl.cons (Fit1.bool rfl) ?_ | refine FitsSl.cons (Fit1.str rfl) ?_ | refine FitsSl.cons (Fit1.same (by intro h; cases h) (by with_reducible rfl)) ?_ | refine FitsSl.cons Fit1.nil_sl ?_ | refine FitsSl.cons (Fit1.hs rfl) ?_ | refine FitsSl.cons (Fit1.hp rfl rfl) ?_ | refine FitsSl.cons (Fit1.sl rfl) ?_ | refine FitsSl.cons (Fit1.ptr rfl rfl) ?_ | refine FitsSl.cons Fit1.raw ?_)
  case pf =>
    intro b1 b2 b3 b4 f ⟨hf, hok⟩
    generalize max a.p b.p = p at *
    by_cases hlt : f < 4
    rotate_left
    · have e : f = 4 := by omega
      subst e
      have hza := hza p rfl
      rw [hza]
      (repeat' (first | (with_reducible first|refine z0 ?_|refine z1 ?_|refine z2 ?_|refine z3 ?_|refine z4 ?_|refine z5 ?_|refine z6 ?_|refine z7 ?_|refine z8 ?_|refine z9 ?_|refine z10 ?_|refine z11 ?_|refine z12 ?_|refine z13 ?_|refine z14 ?_|refine z15 ?_|refine z16 ?_|refine z17 ?_|refine z18 ?_|refine z19 ?_|refine z20 ?_|refine z21 ?_|refine z22 ?_|refine z23 ?_|refine z24 ?_) | (((with_reducible first|refine z25 ?_|refine z26 ?_|refine z27 ?_|refine z28 ?_);intro K hK;(conv=>whnf))) | (with_reducible first|(refine hK _ _ ?_;clear hK K)|(refine hA ?_;clear hA hB A B)|(refine hB ?_;clear hA hB A B)|(refine hK _ ?_;clear hK K)) | ((with_reducible refine z29 ?_);intro A B hA hB;(conv=>whnf)) | (refine z30 (by decide) ?_) | ((first|refine z31 rfl ?_|refine z32 rfl ?_|refine z33 rfl ?_);intro K hK;(conv=>whnf)) | (refine z34 (by kernel_rfl) (by kernel_rfl) ?_) | (((with_reducible first|refine NV.quo ?s ?_|refine NV.rem ?s ?_|refine NV.i64 ?s ?_|refine NV.u32 ?s ?_|refine NV.u8 ?s ?_|refine NV.u64 ?s ?_);case s=>omega)<;>(conv=>whnf)) | ((with_reducible first|refine NV.divk ?_|refine NV.modk ?_|refine NN.lit ?_|refine NN.cast ?_|refine NN.a1 ?_|refine NN.a2 ?_|refine NN.a3 ?_|refine NN.a4 ?_|refine NN.a5 ?_|refine NN.a6 ?_|refine NV.keep ?_|refine NN.keep ?_|refine NS.keep ?_|refine NIf.not_ ?_)<;>(conv=>whnf)) | (((with_reducible refine NH.mk ?s ?_);case s=>(and_intros <;> first | with_reducible rfl | omega | assumption | exact Nat.le_of_ble_eq_true rfl | (simp only [List.length_append, List.length_cons, List.length_nil]; omega) | rfl))<;>(conv=>whnf)) | (((with_reducible refine NIf.decY ?s ?_);case s=>first|with_reducible rfl|assumption|omega)<;>(conv=>whnf)) | (((with_reducible refine NIf.decN ?s ?_);case s=>first|with_reducible rfl|assumption|omega)<;>(conv=>whnf)) | (((with_reducible refine NIf.yes ?s ?_);case s=>first|rfl|assumption)<;>(conv=>whnf)) | (((with_reducible refine NIf.no ?s ?_);case s=>first|rfl|assumption)<;>(conv=>whnf)) | (((with_reducible refine NLd.of (by with_reducible assumption) ?_))<;>(conv=>whnf)) | ((refine NFlat_iff.2 ⟨⟨?s1,?s2⟩,?_⟩;(case s1=>decide +kernel);(case s2=>decide +kernel))<;>(conv=>whnf)) | ((with_reducible first|refine NIf.dec (fun _=>?_) (fun _=>?_)|refine NIf.both (fun _=>?_) (fun _=>?_))<;>(conv=>whnf)) | ((intro _;skip)<;>(conv=>whnf))))
      exact meetY (q.2 ⟨hq, hok⟩)
    have hav := hav f hlt
    have hbv := hbv f hlt
    have la := la f hlt
    have lb := lb f hlt
    have sa := (ha.2 f hlt).2
    have sb := (hb.2 f hlt).2
    (repeat' (first | (with_reducible first|refine z0 ?_|refine z1 ?_|refine z2 ?_|refine z3 ?_|refine z4 ?_|refine z5 ?_|refine z6 ?_|refine z7 ?_|refine z8 ?_|refine z9 ?_|refine z10 ?_|refine z11 ?_|refine z12 ?_|refine z13 ?_|refine z14 ?_|refine z15 ?_|refine z16 ?_|refine z17 ?_|refine z18 ?_|refine z19 ?_|refine z20 ?_|refine z21 ?_|refine z22 ?_|refine z23 ?_|refine z24 ?_) | (((with_reducible first|refine z25 ?_|refine z26 ?_|refine z27 ?_|refine z28 ?_);intro K hK;(conv=>whnf))) | (with_reducible first|(refine hK _ _ ?_;clear hK K)|(refine hA ?_;clear hA hB A B)|(refine hB ?_;clear hA hB A B)|(refine hK _ ?_;clear hK K)) | ((with_reducible refine z29 ?_);intro A B hA hB;(conv=>whnf)) | (refine z30 (by decide) ?_) | ((first|refine z31 rfl ?_|refine z32 rfl ?_|refine z33 rfl ?_);intro K hK;(conv=>whnf)) | (refine z34 (by kernel_rfl) (by kernel_rfl) ?_) | (((with_reducible first|refine NV.quo ?s ?_|refine NV.rem ?s ?_|refine NV.i64 ?s ?_|refine NV.u32 ?s ?_|refine NV.u8 ?s ?_|refine NV.u64 ?s ?_);case s=>omega)<;>(conv=>whnf)) | ((with_reducible first|refine NV.divk ?_|refine NV.modk ?_|refine NN.lit ?_|refine NN.cast ?_|refine NN.a1 ?_|refine NN.a2 ?_|refine NN.a3 ?_|refine NN.a4 ?_|refine NN.a5 ?_|refine NN.a6 ?_|refine NV.keep ?_|refine NN.keep ?_|refine NS.keep ?_|refine NIf.not_ ?_)<;>(conv=>whnf)) | (((with_reducible refine NH.mk ?s ?_);case s=>(and_intros <;> first | with_reducible rfl | omega | assumption | exact Nat.le_of_ble_eq_true rfl | (simp only [List.length_append, List.length_cons, List.length_nil]; omega) | rfl))<;>(conv=>whnf)) | (((with_reducible refine NIf.decY ?s ?_);case s=>first|with_reducible rfl|assumption|omega)<;>(conv=>whnf)) | (((with_reducible refine NIf.decN ?s ?_);case s=>first|with_reducible rfl|assumption|omega)<;>(conv=>whnf)) | (((with_reducible refine NIf.yes ?s ?_);case s=>first|rfl|assumption)<;>(conv=>whnf)) | (((with_reducible refine NIf.no ?s ?_);case s=>first|rfl|assumption)<;>(conv=>whnf)) | (((with_reducible refine NLd.of (by with_reducible assumption) ?_))<;>(conv=>whnf)) | ((refine NFlat_iff.2 ⟨⟨?s1,?s2⟩,?_⟩;(case s1=>decide +kernel);(case s2=>decide +kernel))<;>(conv=>whnf)) | ((with_reducible first|refine NIf.dec (fun _=>?_) (fun _=>?_)|refine NIf.both (fun _=>?_) (fun _=>?_))<;>(conv=>whnf)) | ((intro _;skip)<;>(conv=>whnf))))
    refine st_auto (α := Nat) (fun i => i ≤ 8 ∧ ∀ j, j < i → Mt.bt (b.m f) j = 1 → Mt.bt (a.m f) j = 1 → Mt.bt (a.v f) j = Mt.bt (b.v f) j) (fun i => [.keep, .keep, .keep, .keep, .keep, .set (.bool false), .keep, .keep, .set (.int .i64 ((2 ^ i : Nat) : Int)), .set (.int .i64 i), .keep, .keep, .keep, .keep, .keep, .keep, .keep, .keep, .keep, .keep, .keep, .keep, .keep, .keep, .keep, .keep, .keep, .keep, .keep, .keep, .keep, .keep, .drop, .drop, .drop, .drop, .drop, .drop, .drop, .drop, .drop, .drop, .drop, .drop, .drop, .drop, .drop, .drop, .drop, .drop, .drop, .drop, .drop, .drop, .drop, .drop, .drop, .drop, .drop, .drop, .drop, .drop, .drop, .drop, .drop, .drop, .drop, .drop, .drop, .drop, .drop, .drop, .drop, .drop, .drop, .drop, .drop, .drop, .drop, .drop, .drop, .drop, .drop, .drop, .drop, .drop, .drop, .drop, .drop, .drop, .drop, .drop, .drop, .drop, .drop, .drop, .drop, .drop, .drop, .drop, .drop, .drop, .drop, .drop, .drop, .drop, .drop, .drop, .drop, .drop, .drop, .keep])
      (fun i => [.keep, .keep, .keep, .cells (Mt.outC p a b f i)]) (fun i => 8 - i) 0 ⟨by decide, fun g hg => absurd hg (Nat.not_lt_zero _)⟩ ?_ (MemFits.eq rfl) ?_
    · repeat (first | exact FitsSl.nil | refine FitsSl.any ?_ | refine FitsSl.cons (Fit1.int (by first | rfl | omega)) ?_ | refine FitsSl.cons (Fit1.bool rfl) ?_ | refine FitsSl.cons (Fit1.str rfl) ?_ | refine FitsSl.cons (Fit1.same (by intro h; cases h) (by with_reducible rfl)) ?_ | refine FitsSl.cons Fit1.nil_sl ?_ | refine FitsSl.cons (Fit1.hs rfl) ?_ | refine FitsSl.cons (Fit1.hp rfl rfl) ?_ | refine FitsSl.cons (Fit1.sl rfl) ?_ | refine FitsSl.cons (Fit1.ptr rfl rfl) ?_ | refine FitsSl.cons Fit1.raw ?_)
    (intro i ⟨hi, hib⟩; intro K hK; (conv=>whnf); refine hK _ _ ?_; clear hK K)
    by_cases hi8 : i < 8
    rotate_left
    · have e : i = 8 := by omega
      subst e
      rw [hzn]
      (repeat' (first | (with_reducible first|refine z0 ?_|refine z1 ?_|refine z2 ?_|refine z3 ?_|refine z4 ?_|refine z5 ?_|refine z6 ?_|refine z7 ?_|refine z8 ?_|refine z9 ?_|refine z10 ?_|refine z11 ?_|refine z12 ?_|refine z13 ?_|refine z14 ?_|refine z15 ?_|refine z16 ?_|refine z17 ?_|refine z18 ?_|refine z19 ?_|refine z20 ?_|refine z21 ?_|refine z22 ?_|refine z23 ?_|refine z24 ?_) | (((with_reducible first|refine z25 ?_|refine z26 ?_|refine z27 ?_|refine z28 ?_);intro K hK;(conv=>whnf))) | (with_reducible first|(refine hK _ _ ?_;clear hK K)|(refine hA ?_;clear hA hB A B)|(refine hB ?_;clear hA hB A B)|(refine hK _ ?_;clear hK K)) | ((with_reducible refine z29 ?_);intro A B hA hB;(conv=>whnf)) | (refine z30 (by decide) ?_) | ((first|refine z31 rfl ?_|refine z32 rfl ?_|refine z33 rfl ?_);intro K hK;(conv=>whnf)) | (refine z34 (by kernel_rfl) (by kernel_rfl) ?_) | (((with_reducible first|refine NV.quo ?s ?_|refine NV.rem ?s ?_|refine NV.i64 ?s ?_|refine NV.u32 ?s ?_|refine NV.u8 ?s ?_|refine NV.u64 ?s ?_);case s=>omega)<;>(conv=>whnf)) | ((with_reducible first|refine NV.divk ?_|refine NV.modk ?_|refine NN.lit ?_|refine NN.cast ?_|refine NN.a1 ?_|refine NN.a2 ?_|refine NN.a3 ?_|refine NN.a4 ?_|refine NN.a5 ?_|refine NN.a6 ?_|refine NV.keep ?_|refine NN.keep ?_|refine NS.keep ?_|refine NIf.not_ ?_)<;>(conv=>whnf)) | (((with_reducible refine NH.mk ?s ?_);case s=>(and_intros <;> first | with_reducible rfl | omega | assumption | exact Nat.le_of_ble_eq_true rfl | (simp only [List.length_append, List.length_cons, List.length_nil]; omega) | rfl))<;>(conv=>whnf)) | (((with_reducible refine NIf.decY ?s ?_);case s=>first|with_reducible rfl|assumption|omega)<;>(conv=>whnf)) | (((with_reducible refine NIf.decN ?s ?_);case s=>first|with_reducible rfl|assumption|omega)<;>(conv=>whnf)) | (((with_reducible refine NIf.yes ?s ?_);case s=>first|rfl|assumption)<;>(conv=>whnf)) | (((with_reducible refine NIf.no ?s ?_);case s=>first|rfl|assumption)<;>(conv=>whnf)) | (((with_reducible refine NLd.of (by with_reducible assumption) ?_))<;>(conv=>whnf)) | ((refine NFlat_iff.2 ⟨⟨?s1,?s2⟩,?_⟩;(case s1=>decide +kernel);(case s2=>decide +kernel))<;>(conv=>whnf)) | ((with_reducible first|refine NIf.dec (fun _=>?_) (fun _=>?_)|refine NIf.both (fun _=>?_) (fun _=>?_))<;>(conv=>whnf)) | ((intro _;skip)<;>(conv=>whnf))))
      refine st_round (f + 1) ⟨hlt, fun g hg => ?_⟩ (by omega) ?_ (MemFits.eq rfl)
      · by_cases e : g = f
        · subst e; exact hib
        · exact hok g (by omega)
      · repeat (first | exact FitsSl.nil | refine FitsSl.any ?_ | refine FitsSl.cons (Fit1.int (by first | rfl | omega)) ?_ | refine FitsSl.cons (Fit1.bool rfl) ?_ | refine FitsSl.cons (Fit1.str rfl) ?_ | refine FitsSl.cons (Fit1.same (by intro h; cases h) (by with_reducible rfl)) ?_ | refine FitsSl.cons Fit1.nil_sl ?_ | refine FitsSl.cons (Fit1.hs rfl) ?_ | refine FitsSl.cons (Fit1.hp rfl rfl) ?_ | refine FitsSl.cons (Fit1.sl rfl) ?_ | refine FitsSl.cons (Fit1.ptr rfl rfl) ?_ | refine FitsSl.cons Fit1.raw ?_)
    have c1 := bt_c _ i la.2 (by omega)
    have c2 := bt_c _ i la.1 (by omega)
    have c3 := bt_c _ i lb.2 (by omega)
    have c4 := bt_c _ i lb.1 (by omega)
    have hno : Mt.meets a b → Mt.bt (b.m f) i = 1 → Mt.bt (a.m f) i = 1 → Mt.bt (a.v f) i = Mt.bt (b.v f) i := fun h => (q.1 h).2 f hlt i hi8
    have hyes : (Mt.bt (b.m f) i = 1 → Mt.bt (a.m f) i = 1 → Mt.bt (a.v f) i = Mt.bt (b.v f) i) → ∀ j, j < i + 1 → Mt.bt (b.m f) j = 1 → Mt.bt (a.m f) j = 1 → Mt.bt (a.v f) j = Mt.bt (b.v f) j := fun h j hj => by
      by_cases e : j = i
      · subst e; exact h
      · exact hib j (by omega)
    have ht1 := Mt.bt_lt (a.m f) i
    have ht2 := Mt.bt_lt (b.v f) i
    have hvs := Mt.val_step (a.v f) (a.m f) (b.v f) (b.m f) i la.1 la.2 lb.1 lb.2 hi8 sa sb
    have hms := Mt.or_step (a.m f) (b.m f) i la.2 lb.2 hi8
    have ov : a.v f ||| b.v f % 2 ^ i < 256 := Nat.or_lt_two_pow (n := 8) la.1 (Nat.lt_of_le_of_lt (Nat.mod_le _ _) lb.1)
    have om : a.m f ||| b.m f % 2 ^ i < 256 := Nat.or_lt_two_pow (n := 8) la.2 (Nat.lt_of_le_of_lt (Nat.mod_le _ _) lb.2)
    have hg := hzg p i f hlt
    have hst := hzs p i (i + 1) f hlt
    have hst0 := hzs p i i f hlt
    have hl := hzl p f i
    have hp2 : 2 ^ i ≤ 128 := by
      have := Nat.pow_le_pow_right (n := 2) (by decide) (show i ≤ 7 by omega)
      omega
    have hp3 : (2 : Nat) ^ (i + 1) = 2 ^ i * 2 := Nat.pow_succ 2 i
    generalize hcs : Mt.outC p a b f i = cs at *
    generalize Mt.bt (a.m f) i = t1 at *
    generalize Mt.bt (a.v f) i = t2 at *
    generalize Mt.bt (b.m f) i = t3 at *
    generalize Mt.bt (b.v f) i = t4 at *
    generalize a.v f ||| b.v f % 2 ^ i = xv at *
    generalize a.m f ||| b.m f % 2 ^ i = xm at *
    generalize 2 ^ i = pw at *
    have hm4 : pw * t4 ≤ 128 := by
      have : t4 = 0 ∨ t4 = 1 := by omega
      rcases this with rfl | rfl <;> omega
    (repeat' (first | (refine draw_ns (by decide +kernel) (by kernel_rfl) (by decide +kernel) ?_) | (refine z35 (by kernel_rfl) _ rfl ?_) | (refine z36 rfl (by kernel_rfl) ?_; intro K hK; (conv=>whnf)) | (refine z37 rfl (by kernel_rfl) ?_; intro K hK; (conv=>whnf)) | (refine z38 rfl (by kernel_rfl) ?_) | (refine z39 rfl rfl (by kernel_rfl) (by intro h; cases h) ?_) | (refine z40 ?_ ?_; (intro K hK; (conv=>whnf))) | (refine z41 ?_ ?_; (intro K hK; (conv=>whnf))) | exact z42 | (refine putK.one (by first | omega | (simp only [List.length_set]; omega)) ?_; conv=>whnf) | (with_reducible first|refine z0 ?_|refine z1 ?_|refine z2 ?_|refine z3 ?_|refine z4 ?_|refine z5 ?_|refine z6 ?_|refine z7 ?_|refine z8 ?_|refine z9 ?_|refine z10 ?_|refine z11 ?_|refine z12 ?_|refine z13 ?_|refine z14 ?_|refine z15 ?_|refine z16 ?_|refine z17 ?_|refine z18 ?_|refine z19 ?_|refine z20 ?_|refine z21 ?_|refine z22 ?_|refine z23 ?_|refine z24 ?_) | (((with_reducible first|refine z25 ?_|refine z26 ?_|refine z27 ?_|refine z28 ?_);intro K hK;(conv=>whnf))) | (with_reducible first|(refine hK _ _ ?_;clear hK K)|(refine hA ?_;clear hA hB A B)|(refine hB ?_;clear hA hB A B)|(refine hK _ ?_;clear hK K)) | ((with_reducible refine z29 ?_);intro A B hA hB;(conv=>whnf)) | (refine z30 (by decide) ?_) | ((first|refine z31 rfl ?_|refine z32 rfl ?_|refine z33 rfl ?_);intro K hK;(conv=>whnf)) | ((refine nthK.of (hav.1) ?_) <;> (conv=>whnf)) | ((refine nthK.of (hav.2) ?_) <;> (conv=>whnf)) | ((refine nthK.of (hbv.1) ?_) <;> (conv=>whnf)) | ((refine nthK.of (hbv.2) ?_) <;> (conv=>whnf)) | ((refine nthK.of (hg.2) ?_) <;> (conv=>whnf)) | ((refine nthK.of (set_get hg.1 (by omega)) ?_) <;> (conv=>whnf)) | ((with_reducible refine NCall.isF 114 ?_); (refine NCall.pure (c1) ?_; rintro _ _ rfl; refine ⟨_, rfl, ?_⟩; (conv=>whnf))) | ((with_reducible refine NCall.isF 114 ?_); (refine NCall.pure (c2) ?_; rintro _ _ rfl; refine ⟨_, rfl, ?_⟩; (conv=>whnf))) | ((with_reducible refine NCall.isF 114 ?_); (refine NCall.pure (c3) ?_; rintro _ _ rfl; refine ⟨_, rfl, ?_⟩; (conv=>whnf))) | ((with_reducible refine NCall.isF 114 ?_); (refine NCall.pure (c4) ?_; rintro _ _ rfl; refine ⟨_, rfl, ?_⟩; (conv=>whnf))) | ((with_reducible refine NCallQ.isF 114 ?_); (refine NCallQ.pureEq (c1) ?_; (conv=>whnf))) | ((with_reducible refine NCallQ.isF 114 ?_); (refine NCallQ.pureEq (c2) ?_; (conv=>whnf))) | ((with_reducible refine NCallQ.isF 114 ?_); (refine NCallQ.pureEq (c3) ?_; (conv=>whnf))) | ((with_reducible refine NCallQ.isF 114 ?_); (refine NCallQ.pureEq (c4) ?_; (conv=>whnf))) | (((with_reducible first|refine NV.quo ?s ?_|refine NV.rem ?s ?_|refine NV.i64 ?s ?_|refine NV.u32 ?s ?_|refine NV.u8 ?s ?_|refine NV.u64 ?s ?_);case s=>omega)<;>(conv=>whnf)) | ((with_reducible first|refine NV.divk ?_|refine NV.modk ?_|refine NN.lit ?_|refine NN.cast ?_|refine NN.a1 ?_|refine NN.a2 ?_|refine NN.a3 ?_|refine NN.a4 ?_|refine NN.a5 ?_|refine NN.a6 ?_|refine NV.keep ?_|refine NN.keep ?_|refine NS.keep ?_|refine NIf.not_ ?_)<;>(conv=>whnf)) | (((with_reducible refine NH.mk ?s ?_);case s=>(and_intros <;> first | with_reducible rfl | omega | assumption | exact Nat.le_of_ble_eq_true rfl | (simp only [List.length_append, List.length_cons, List.length_nil]; omega) | rfl))<;>(conv=>whnf)) | (((with_reducible refine NIf.decY ?s ?_);case s=>first|with_reducible rfl|assumption|omega)<;>(conv=>whnf)) | (((with_reducible refine NIf.decN ?s ?_);case s=>first|with_reducible rfl|assumption|omega)<;>(conv=>whnf)) | (((with_reducible refine NIf.yes ?s ?_);case s=>first|rfl|assumption)<;>(conv=>whnf)) | (((with_reducible refine NIf.no ?s ?_);case s=>first|rfl|assumption)<;>(conv=>whnf)) | (((with_reducible refine NLd.of (by with_reducible assumption) ?_))<;>(conv=>whnf)) | ((refine NFlat_iff.2 ⟨⟨?s1,?s2⟩,?_⟩;(case s1=>decide +kernel);(case s2=>decide +kernel))<;>(conv=>whnf)) | ((with_reducible first|refine NIf.dec (fun _=>?_) (fun _=>?_)|refine NIf.both (fun _=>?_) (fun _=>?_))<;>(conv=>whnf)) | ((intro _;skip)<;>(conv=>whnf))))
    all_goals first
      | exact meetN (fun h => by have := hno h; omega)
      | (refine st_round (i + 1) ⟨hi8, hyes (by omega)⟩ (by omega) ?_ (MemFits.eq ?_)
         · repeat (first | exact FitsSl.nil | refine FitsSl.any ?_ | refine FitsSl.cons (Fit1.int (by  first | rfl | (rw [hp3]; omega) | omega)) ?_ | refine FitsSl.cons (Fit1.int (by first | rfl | omega)) ?_ | refine FitsSl.cons (Fit1.bool rfl) ?_ | refine FitsSl.cons (Fit1.str rfl) ?_ | refine FitsSl.cons (Fit1.same (by intro h; cases h) (by with_reducible rfl)) ?_ | refine FitsSl.cons Fit1.nil_sl ?_ | refine FitsSl.cons (Fit1.hs rfl) ?_ | refine FitsSl.cons (Fit1.hp rfl rfl) ?_ | refine FitsSl.cons (Fit1.sl rfl) ?_ | refine FitsSl.cons (Fit1.ptr rfl rfl) ?_ | refine FitsSl.cons Fit1.raw ?_)
         · simp only [autoM]
           rw [show a.v f ||| b.v f % 2 ^ (i + 1) = _ from hvs (by omega), show a.m f ||| b.m f % 2 ^ (i + 1) = _ from hms] at hst
           first
             | (rw [if_pos (by omega), if_pos (by omega)] at hst
                rw [← hst]
                try rfl)
             | (rw [if_neg (by omega), if_neg (by omega), Nat.add_zero, hst0] at hst
                rw [← hst]
                try rfl))
end Go.Proofs.YtokpkddeijfjjaaDoor
