/-
  Networks: links, hosts; is a port named?; Policies: the numbers of a field, by the program. (Printed by gen_po7.py.).
-/
import Derived.Test.YtpkjnmddembkjaaGreatDoorJ4
import Derived.Test.YtpkjnmddembkjaaGreatDoorProg
import Derived.Test.YtpkjnmddembkjaaGreatDoorJ2
import Derived.Test.YtpkjnmddembkjaaGreatDoorJ6
import Derived.Test.YtpkjnmddembkjaaGreatDoorJ10
namespace Go.Proofs.YtpkjnmddembkjaaGreatDoor
open Go.Sx
set_option maxRecDepth 20000
set_option linter.unusedSimpArgs false
set_option linter.unusedVariables false
set_option maxHeartbeats 4000000
set_option linter.unusedVariables false
namespace Tp
structure Lk where
  a : Int
  pa : Int
  b : Int
  pb : Int
  least : Int
  most : Int
structure Hs where
  at_ : Int
  port : Int
structure T where
  n : Int
  ls : List Lk
  hs : List Hs
def lkV (x : Lk) : List Value := [.int .i64 x.a, .int .i64 x.pa, .int .i64 x.b, .int .i64 x.pb, .int .i64 x.least, .int .i64 x.most]
def hsV (x : Hs) : List Value := [.int .i64 x.at_, .int .i64 x.port]
abbrev LRow (F : Heap) (v : Value) (l : List Lk) : Prop := RowF F 6 (fun x us => us = lkV x) v l
abbrev HRow (F : Heap) (v : Value) (l : List Hs) : Prop := RowF F 2 (fun x us => us = hsV x) v l
structure At (F : Heap) (t : T) (lv hv : Value) : Prop where
  l : LRow F lv t.ls
  h : HRow F hv t.hs
theorem LRow.mono {F G : Heap} (h : F.le G) {v : Value} {l : List Lk} (hv : LRow F v l) : LRow G v l := RowF.mono h (fun _ _ hp => hp) hv
theorem HRow.mono {F G : Heap} (h : F.le G) {v : Value} {l : List Hs} (hv : HRow F v l) : HRow G v l := RowF.mono h (fun _ _ hp => hp) hv
theorem At.mono {F G : Heap} (h : F.le G) {t : T} {lv hv : Value} (ht : At F t lv hv) : At G t lv hv := ⟨LRow.mono h ht.l, HRow.mono h ht.h⟩
def cs (t : T) (lv hv : Value) : List AV := [.int .i64 t.n, .hs lv t.ls.length, .hs hv t.hs.length]
def lkC (x : Lk) : List AV := [.int .i64 x.a, .int .i64 x.pa, .int .i64 x.b, .int .i64 x.pb, .int .i64 x.least, .int .i64 x.most]
def hsC (x : Hs) : List AV := [.int .i64 x.at_, .int .i64 x.port]
theorem LRow.get {F : Heap} {v : Value} {l : List Lk} (h : LRow F v l) {i : Nat} {x : Lk} (hx : l[i]? = some x) :
    F.c ((addrOf v).add (i * 6)) (.int .i64 x.a) ∧ F.c ((addrOf v).add (i * 6 + 1)) (.int .i64 x.pa) ∧ F.c ((addrOf v).add (i * 6 + 2)) (.int .i64 x.b) ∧ F.c ((addrOf v).add (i * 6 + 3)) (.int .i64 x.pb) ∧ F.c ((addrOf v).add (i * 6 + 4)) (.int .i64 x.least) ∧ F.c ((addrOf v).add (i * 6 + 5)) (.int .i64 x.most) := by
  obtain ⟨us, rfl, _, h2⟩ := h.at_ i x hx
  simp only [lkV, CellsF, Nat.add_assoc, Nat.reduceAdd] at h2
  obtain ⟨c0, c1, c2, c3, c4, c5, _⟩ := h2
  exact ⟨c0, c1, c2, c3, c4, c5⟩
theorem HRow.get {F : Heap} {v : Value} {l : List Hs} (h : HRow F v l) {i : Nat} {x : Hs} (hx : l[i]? = some x) :
    F.c ((addrOf v).add (i * 2)) (.int .i64 x.at_) ∧ F.c ((addrOf v).add (i * 2 + 1)) (.int .i64 x.port) := by
  obtain ⟨us, rfl, _, h2⟩ := h.at_ i x hx
  simp only [hsV, CellsF, Nat.add_assoc, Nat.reduceAdd] at h2
  obtain ⟨c0, c1, _⟩ := h2
  exact ⟨c0, c1⟩
def lNamed (p : Int) (x : Lk) : Bool := decide (x.pa = p) || decide (x.pb = p)
def hNamed (p : Int) (x : Hs) : Bool := decide (x.port = p)
def named (t : T) (p : Int) : Bool := t.ls.any (lNamed p) || t.hs.any (hNamed p)
end Tp
section
variable (F : Heap)
theorem any_next {α : Type} {q : α → Bool} {l : List α} {k : Nat} {x : α} (hx : l[k]? = some x) : (l.take (k + 1)).any q = ((l.take k).any q || q x) := by
  rw [List.take_add_one, hx, List.any_append]
  simp
theorem any_at {α : Type} {q : α → Bool} {l : List α} {k : Nat} {x : α} (hx : l[k]? = some x) (h : q x = true) : l.any q = true := List.any_eq_true.2 ⟨x, List.mem_of_getElem? hx, h⟩
/-- Contracts. -/
theorem indexLk_c (q : Tp.Lk → Bool) (v : Value) (l : List Tp.Lk) (hv : Tp.LRow F v l) (hn : l.length ≤ 4611686018427387904) (g : FuncId) (first captured : List AV)
    (hg : ∀ x ∈ l, NCall Tryz.prog g (first ++ [.agg (Tp.lkC x)] ++ captured) [hpB F] fun r m => r = .bool (q x) ∧ m = [hpB F]) :
    NCall Tryz.prog 79 [.hs v l.length, .fn g first captured] [hpB F] fun r m => (∃ j : Int, r = .int .i64 j ∧ (0 ≤ j ↔ l.any q = true)) ∧ m = [hpB F] := by
  have hok := hv.ok
  refine ncall_of Tryz.func79 rfl (by decide) ?_
  (repeat' (first|(with_reducible first|(refine hK _ _ ?_;clear hK K)|(refine hK _ ?_;clear hK K))|((with_reducible refine gO ?_);(first|((with_reducible refine z25 ?_);intro K hK;(conv=>whnf))|(with_reducible refine z0 ?_)))|((((with_reducible refine gH ?_);((with_reducible refine NH.mk ?s ?_);case s=>(and_intros<;>omega))))<;>(conv=>whnf))|((with_reducible refine gX ?_);((with_reducible first|refine z3 ?_|refine z4 ?_|refine z5 ?_)))|(with_reducible first|refine z1 ?_|refine z2 ?_)|((with_reducible refine gF ?_);((refine z33 rfl ?_);intro K hK;(conv=>whnf)))))
  refine st_auto (α := Nat) (fun k => k ≤ l.length ∧ (l.take k).any q = false) (fun k => [.keep, .keep, .keep, .keep, .drop, .drop, .keep, .keep, .set (.int .i64 k), .drop, .drop, .drop, .drop, .drop, .drop, .drop, .drop, .drop, .drop]) (fun _ => []) (fun k => l.length - k) 0 ⟨Nat.zero_le _, rfl⟩ ?_ (MemFits.eq rfl) ?_
  · repeat (first | exact FitsSl.nil | refine FitsSl.any ?_ | refine FitsSl.cons (Fit1.int (by first | rfl | omega)) ?_ | refine FitsSl.cons (Fit1.bool rfl) ?_ | refine FitsSl.cons (Fit1.str rfl) ?_ | refine FitsSl.cons (Fit1.same (by intro h; cases h) (by with_reducible rfl)) ?_ | refine FitsSl.cons Fit1.nil_sl ?_ | refine FitsSl.cons (Fit1.hs rfl) ?_ | refine FitsSl.cons (Fit1.hp rfl rfl) ?_ | refine FitsSl.cons (Fit1.sl rfl) ?_ | refine FitsSl.cons (Fit1.ptr rfl rfl) ?_ | refine FitsSl.cons Fit1.raw ?_)
  (intro k ⟨hk, hgone⟩; intro K hK; (conv=>whnf); refine hK _ _ ?_; clear hK K)
  by_cases hlt : k < l.length
  · have hx : l[k]? = some l[k] := List.getElem?_eq_getElem hlt
    obtain ⟨c0, c1, c2, c3, c4, c5⟩ := hv.get hx
    have c := hg _ (List.getElem_mem hlt)
    have hnx := any_next (q := q) hx
    have hat := any_at (q := q) hx
    generalize l[k] = x at *
    simp only [Tp.lkC] at c
    cases hq : q x with
    | false =>
      rw [hq] at c
      (repeat' (first|(with_reducible first|(refine hK _ _ ?_;clear hK K)|(refine hA ?_;clear hA hB A B)|(refine hB ?_;clear hA hB A B))|((with_reducible refine gO ?_);(first|((with_reducible refine z25 ?_);intro K hK;(conv=>whnf))|(with_reducible refine z0 ?_)))|((first|((with_reducible refine gV ?_);(((with_reducible refine NV.i64 ?s ?_);case s=>omega)))|((with_reducible refine gI ?_);(first|((with_reducible refine NIf.decY ?s ?_);case s=>omega)|((with_reducible refine NIf.no ?s ?_);case s=>rfl)))|((with_reducible refine gN ?_);(with_reducible first|refine NN.cast ?_|refine NN.keep ?_))|((with_reducible refine gH ?_);((with_reducible refine NH.mk ?s ?_);case s=>(and_intros<;>omega)))|((with_reducible refine gC ?_);((with_reducible refine NCall.isF g ?_);refine NCall.subE [0] (c) rfl (by decide) rfl rfl ?_))|(with_reducible refine NLd.of (by with_reducible assumption) ?_))<;>(conv=>whnf))|((with_reducible refine gX ?_);(first|(with_reducible first|refine z3 ?_|refine z4 ?_|refine z5 ?_|refine z6 ?_)|((with_reducible refine z29 ?_);intro A B hA hB;(conv=>whnf))))|(with_reducible first|refine z1 ?_|refine z2 ?_|refine z9 ?_)))
      refine st_round (k + 1) ⟨hlt, by rw [hnx, hgone, hq]; rfl⟩ (by omega) ?_ (MemFits.eq rfl)
      repeat (first | exact FitsSl.nil | refine FitsSl.any ?_ | refine FitsSl.cons (Fit1.int (by first | rfl | omega)) ?_ | refine FitsSl.cons (Fit1.bool rfl) ?_ | refine FitsSl.cons (Fit1.str rfl) ?_ | refine FitsSl.cons (Fit1.same (by intro h; cases h) (by with_reducible rfl)) ?_ | refine FitsSl.cons Fit1.nil_sl ?_ | refine FitsSl.cons (Fit1.hs rfl) ?_ | refine FitsSl.cons (Fit1.hp rfl rfl) ?_ | refine FitsSl.cons (Fit1.sl rfl) ?_ | refine FitsSl.cons (Fit1.ptr rfl rfl) ?_ | refine FitsSl.cons Fit1.raw ?_)
    | true =>
      rw [hq] at c
      (repeat' (first|(with_reducible first|(refine hK _ _ ?_;clear hK K)|(refine hA ?_;clear hA hB A B)|(refine hK _ ?_;clear hK K))|((with_reducible refine gO ?_);(first|((with_reducible refine z25 ?_);intro K hK;(conv=>whnf))|(with_reducible refine z0 ?_)))|((first|((with_reducible refine gI ?_);(first|((with_reducible refine NIf.decY ?s ?_);case s=>omega)|((with_reducible refine NIf.yes ?s ?_);case s=>rfl)))|((with_reducible refine gN ?_);(with_reducible first|refine NN.cast ?_|refine NN.keep ?_))|((with_reducible refine gH ?_);((with_reducible refine NH.mk ?s ?_);case s=>(and_intros<;>omega)))|((with_reducible refine gC ?_);((with_reducible refine NCall.isF g ?_);refine NCall.subE [0] (c) rfl (by decide) rfl rfl ?_))|(with_reducible refine NLd.of (by with_reducible assumption) ?_))<;>(conv=>whnf))|((with_reducible refine gX ?_);(first|(with_reducible first|refine z3 ?_|refine z4 ?_|refine z5 ?_|refine z6 ?_|refine z8 ?_)|((with_reducible refine z29 ?_);intro A B hA hB;(conv=>whnf))))|(with_reducible first|refine z1 ?_|refine z2 ?_|refine z12 ?_|refine z13 ?_|refine z20 ?_)|((with_reducible refine gR ?_);((refine z31 rfl ?_);intro K hK;(conv=>whnf)))))
      exact ⟨⟨_, rfl, ⟨fun _ => hat hq, fun _ => by omega⟩⟩, rfl⟩
  · have hkl : k = l.length := by omega
    subst hkl
    rw [List.take_length] at hgone
    (repeat' (first|(with_reducible first|(refine hK _ _ ?_;clear hK K)|(refine hB ?_;clear hA hB A B)|(refine hK _ ?_;clear hK K))|((with_reducible refine gO ?_);(first|((with_reducible refine z25 ?_);intro K hK;(conv=>whnf))|(with_reducible refine z0 ?_)))|((((with_reducible refine gI ?_);(((with_reducible refine NIf.decN ?s ?_);case s=>omega))))<;>(conv=>whnf))|((with_reducible refine gX ?_);(first|(with_reducible first|refine z3 ?_|refine z4 ?_|refine z7 ?_|refine z8 ?_)|((with_reducible refine z29 ?_);intro A B hA hB;(conv=>whnf))))|(with_reducible first|refine z1 ?_|refine z2 ?_|refine z10 ?_|refine z11 ?_|refine z19 ?_)|((with_reducible refine gR ?_);((refine z31 rfl ?_);intro K hK;(conv=>whnf)))))
    exact ⟨⟨_, rfl, ⟨fun h => by omega, fun h => by rw [hgone] at h; cases h⟩⟩, rfl⟩
theorem containsLk_c (q : Tp.Lk → Bool) (v : Value) (l : List Tp.Lk) (hv : Tp.LRow F v l) (hn : l.length ≤ 4611686018427387904) (g : FuncId) (first captured : List AV)
    (hg : ∀ x ∈ l, NCall Tryz.prog g (first ++ [.agg (Tp.lkC x)] ++ captured) [hpB F] fun r m => r = .bool (q x) ∧ m = [hpB F]) :
    NCall Tryz.prog 41 [.hs v l.length, .fn g first captured] [hpB F] fun r m => r = .bool (l.any q) ∧ m = [hpB F] := by
  have hi := indexLk_c F q v l hv hn g first captured hg
  refine ncall_of Tryz.func41 rfl (by decide) ?_
  (repeat' (first|(with_reducible first|(refine hK _ _ ?_;clear hK K)|(refine hK _ ?_;clear hK K))|((with_reducible refine gO ?_);(first|((with_reducible refine z25 ?_);intro K hK;(conv=>whnf))|(with_reducible refine z0 ?_)))|((((with_reducible refine gC ?_);((with_reducible refine NCall.isF 79 ?_);refine NCall.subw [0] _ _ (hi) rfl (by decide) rfl ?_; rintro _ _ ⟨⟨j, rfl, hj⟩, rfl⟩; refine ⟨Nat.le_of_ble_eq_true rfl, _, rfl, ?_⟩)))<;>(conv=>whnf))|((with_reducible refine gX ?_);((with_reducible first|refine z3 ?_|refine z4 ?_|refine z8 ?_)))|(with_reducible first|refine z1 ?_|refine z2 ?_)|((with_reducible refine gR ?_);((refine z31 rfl ?_);intro K hK;(conv=>whnf)))|((with_reducible refine gF ?_);((refine z33 rfl ?_);intro K hK;(conv=>whnf)))))
  all_goals
    refine ⟨?_, rfl⟩
    congr 1
    by_cases h : 0 ≤ j
    · rw [hj.1 h]; exact decide_eq_true h
    · rw [show l.any q = false by cases e : l.any q with | false => rfl | true => exact (h (hj.2 e)).elim]; exact decide_eq_false h
theorem indexHs_c (q : Tp.Hs → Bool) (v : Value) (l : List Tp.Hs) (hv : Tp.HRow F v l) (hn : l.length ≤ 4611686018427387904) (g : FuncId) (first captured : List AV)
    (hg : ∀ x ∈ l, NCall Tryz.prog g (first ++ [.agg (Tp.hsC x)] ++ captured) [hpB F] fun r m => r = .bool (q x) ∧ m = [hpB F]) :
    NCall Tryz.prog 80 [.hs v l.length, .fn g first captured] [hpB F] fun r m => (∃ j : Int, r = .int .i64 j ∧ (0 ≤ j ↔ l.any q = true)) ∧ m = [hpB F] := by
  have hok := hv.ok
  refine ncall_of Tryz.func80 rfl (by decide) ?_
  (repeat' (first|(with_reducible first|(refine hK _ _ ?_;clear hK K)|(refine hK _ ?_;clear hK K))|((with_reducible refine gO ?_);(first|((with_reducible refine z25 ?_);intro K hK;(conv=>whnf))|(with_reducible refine z0 ?_)))|((((with_reducible refine gH ?_);((with_reducible refine NH.mk ?s ?_);case s=>(and_intros<;>omega))))<;>(conv=>whnf))|((with_reducible refine gX ?_);((with_reducible first|refine z3 ?_|refine z4 ?_|refine z5 ?_)))|(with_reducible first|refine z1 ?_|refine z2 ?_)|((with_reducible refine gF ?_);((refine z33 rfl ?_);intro K hK;(conv=>whnf)))))
  refine st_auto (α := Nat) (fun k => k ≤ l.length ∧ (l.take k).any q = false) (fun k => [.keep, .keep, .keep, .keep, .drop, .drop, .keep, .keep, .set (.int .i64 k), .drop, .drop, .drop, .drop, .drop, .drop, .drop, .drop, .drop, .drop]) (fun _ => []) (fun k => l.length - k) 0 ⟨Nat.zero_le _, rfl⟩ ?_ (MemFits.eq rfl) ?_
  · repeat (first | exact FitsSl.nil | refine FitsSl.any ?_ | refine FitsSl.cons (Fit1.int (by first | rfl | omega)) ?_ | refine FitsSl.cons (Fit1.bool rfl) ?_ | refine FitsSl.cons (Fit1.str rfl) ?_ | refine FitsSl.cons (Fit1.same (by intro h; cases h) (by with_reducible rfl)) ?_ | refine FitsSl.cons Fit1.nil_sl ?_ | refine FitsSl.cons (Fit1.hs rfl) ?_ | refine FitsSl.cons (Fit1.hp rfl rfl) ?_ | refine FitsSl.cons (Fit1.sl rfl) ?_ | refine FitsSl.cons (Fit1.ptr rfl rfl) ?_ | refine FitsSl.cons Fit1.raw ?_)
  (intro k ⟨hk, hgone⟩; intro K hK; (conv=>whnf); refine hK _ _ ?_; clear hK K)
  by_cases hlt : k < l.length
  · have hx : l[k]? = some l[k] := List.getElem?_eq_getElem hlt
    obtain ⟨c0, c1⟩ := hv.get hx
    have c := hg _ (List.getElem_mem hlt)
    have hnx := any_next (q := q) hx
    have hat := any_at (q := q) hx
    generalize l[k] = x at *
    simp only [Tp.hsC] at c
    cases hq : q x with
    | false =>
      rw [hq] at c
      (repeat' (first|(with_reducible first|(refine hK _ _ ?_;clear hK K)|(refine hA ?_;clear hA hB A B)|(refine hB ?_;clear hA hB A B))|((with_reducible refine gO ?_);(first|((with_reducible refine z25 ?_);intro K hK;(conv=>whnf))|(with_reducible refine z0 ?_)))|((first|((with_reducible refine gV ?_);(((with_reducible refine NV.i64 ?s ?_);case s=>omega)))|((with_reducible refine gI ?_);(first|((with_reducible refine NIf.decY ?s ?_);case s=>omega)|((with_reducible refine NIf.no ?s ?_);case s=>rfl)))|((with_reducible refine gN ?_);(with_reducible first|refine NN.cast ?_|refine NN.keep ?_))|((with_reducible refine gH ?_);((with_reducible refine NH.mk ?s ?_);case s=>(and_intros<;>omega)))|((with_reducible refine gC ?_);((with_reducible refine NCall.isF g ?_);refine NCall.subE [0] (c) rfl (by decide) rfl rfl ?_))|(with_reducible refine NLd.of (by with_reducible assumption) ?_))<;>(conv=>whnf))|((with_reducible refine gX ?_);(first|(with_reducible first|refine z3 ?_|refine z4 ?_|refine z5 ?_|refine z6 ?_)|((with_reducible refine z29 ?_);intro A B hA hB;(conv=>whnf))))|(with_reducible first|refine z1 ?_|refine z2 ?_|refine z9 ?_)))
      refine st_round (k + 1) ⟨hlt, by rw [hnx, hgone, hq]; rfl⟩ (by omega) ?_ (MemFits.eq rfl)
      repeat (first | exact FitsSl.nil | refine FitsSl.any ?_ | refine FitsSl.cons (Fit1.int (by first | rfl | omega)) ?_ | refine FitsSl.cons (Fit1.bool rfl) ?_ | refine FitsSl.cons (Fit1.str rfl) ?_ | refine FitsSl.cons (Fit1.same (by intro h; cases h) (by with_reducible rfl)) ?_ | refine FitsSl.cons Fit1.nil_sl ?_ | refine FitsSl.cons (Fit1.hs rfl) ?_ | refine FitsSl.cons (Fit1.hp rfl rfl) ?_ | refine FitsSl.cons (Fit1.sl rfl) ?_ | refine FitsSl.cons (Fit1.ptr rfl rfl) ?_ | refine FitsSl.cons Fit1.raw ?_)
    | true =>
      rw [hq] at c
      (repeat' (first|(with_reducible first|(refine hK _ _ ?_;clear hK K)|(refine hA ?_;clear hA hB A B)|(refine hK _ ?_;clear hK K))|((with_reducible refine gO ?_);(first|((with_reducible refine z25 ?_);intro K hK;(conv=>whnf))|(with_reducible refine z0 ?_)))|((first|((with_reducible refine gI ?_);(first|((with_reducible refine NIf.decY ?s ?_);case s=>omega)|((with_reducible refine NIf.yes ?s ?_);case s=>rfl)))|((with_reducible refine gN ?_);(with_reducible first|refine NN.cast ?_|refine NN.keep ?_))|((with_reducible refine gH ?_);((with_reducible refine NH.mk ?s ?_);case s=>(and_intros<;>omega)))|((with_reducible refine gC ?_);((with_reducible refine NCall.isF g ?_);refine NCall.subE [0] (c) rfl (by decide) rfl rfl ?_))|(with_reducible refine NLd.of (by with_reducible assumption) ?_))<;>(conv=>whnf))|((with_reducible refine gX ?_);(first|(with_reducible first|refine z3 ?_|refine z4 ?_|refine z5 ?_|refine z6 ?_|refine z8 ?_)|((with_reducible refine z29 ?_);intro A B hA hB;(conv=>whnf))))|(with_reducible first|refine z1 ?_|refine z2 ?_|refine z12 ?_|refine z13 ?_|refine z20 ?_)|((with_reducible refine gR ?_);((refine z31 rfl ?_);intro K hK;(conv=>whnf)))))
      exact ⟨⟨_, rfl, ⟨fun _ => hat hq, fun _ => by omega⟩⟩, rfl⟩
  · have hkl : k = l.length := by omega
    subst hkl
    rw [List.take_length] at hgone
    (repeat' (first|(with_reducible first|(refine hK _ _ ?_;clear hK K)|(refine hB ?_;clear hA hB A B)|(refine hK _ ?_;clear hK K))|((with_reducible refine gO ?_);(first|((with_reducible refine z25 ?_);intro K hK;(conv=>whnf))|(with_reducible refine z0 ?_)))|((((with_reducible refine gI ?_);(((with_reducible refine NIf.decN ?s ?_);case s=>omega))))<;>(conv=>whnf))|((with_reducible refine gX ?_);(first|(with_reducible first|refine z3 ?_|refine z4 ?_|refine z7 ?_|refine z8 ?_)|((with_reducible refine z29 ?_);intro A B hA hB;(conv=>whnf))))|(with_reducible first|refine z1 ?_|refine z2 ?_|refine z10 ?_|refine z11 ?_|refine z19 ?_)|((with_reducible refine gR ?_);((refine z31 rfl ?_);intro K hK;(conv=>whnf)))))
    exact ⟨⟨_, rfl, ⟨fun h => by omega, fun h => by rw [hgone] at h; cases h⟩⟩, rfl⟩
theorem containsHs_c (q : Tp.Hs → Bool) (v : Value) (l : List Tp.Hs) (hv : Tp.HRow F v l) (hn : l.length ≤ 4611686018427387904) (g : FuncId) (first captured : List AV)
    (hg : ∀ x ∈ l, NCall Tryz.prog g (first ++ [.agg (Tp.hsC x)] ++ captured) [hpB F] fun r m => r = .bool (q x) ∧ m = [hpB F]) :
    NCall Tryz.prog 43 [.hs v l.length, .fn g first captured] [hpB F] fun r m => r = .bool (l.any q) ∧ m = [hpB F] := by
  have hi := indexHs_c F q v l hv hn g first captured hg
  refine ncall_of Tryz.func43 rfl (by decide) ?_
  (repeat' (first|(with_reducible first|(refine hK _ _ ?_;clear hK K)|(refine hK _ ?_;clear hK K))|((with_reducible refine gO ?_);(first|((with_reducible refine z25 ?_);intro K hK;(conv=>whnf))|(with_reducible refine z0 ?_)))|((((with_reducible refine gC ?_);((with_reducible refine NCall.isF 80 ?_);refine NCall.subw [0] _ _ (hi) rfl (by decide) rfl ?_; rintro _ _ ⟨⟨j, rfl, hj⟩, rfl⟩; refine ⟨Nat.le_of_ble_eq_true rfl, _, rfl, ?_⟩)))<;>(conv=>whnf))|((with_reducible refine gX ?_);((with_reducible first|refine z3 ?_|refine z4 ?_|refine z8 ?_)))|(with_reducible first|refine z1 ?_|refine z2 ?_)|((with_reducible refine gR ?_);((refine z31 rfl ?_);intro K hK;(conv=>whnf)))|((with_reducible refine gF ?_);((refine z33 rfl ?_);intro K hK;(conv=>whnf)))))
  all_goals
    refine ⟨?_, rfl⟩
    congr 1
    by_cases h : 0 ≤ j
    · rw [hj.1 h]; exact decide_eq_true h
    · rw [show l.any q = false by cases e : l.any q with | false => rfl | true => exact (h (hj.2 e)).elim]; exact decide_eq_false h
theorem isLk_c (x : Tp.Lk) (p : Int) (b : Addr) (h : F.c (b.add 0) (.int .i64 p)) : NCall Tryz.prog 42 [.agg (Tp.lkC x), .hp b 0] [hpB F] fun r m => r = .bool (Tp.lNamed p x) ∧ m = [hpB F] := by
  refine NCall.fits (K := fun r m => r = .bool (Tp.lNamed p x) ∧ MemFits m [hpB F]) ?_ fun r m' h => ⟨r, _, rfl, h.2, h.1, rfl⟩
  obtain ⟨a, pa, b', pb, least, most⟩ := x
  simp only [Tp.lkC, Tp.hsC, Tp.lNamed, Tp.hNamed]
  refine ncall_of Tryz.func42 rfl (by decide) ?_
  (repeat' (first|(with_reducible first|(refine hK _ _ ?_;clear hK K)|(refine hK _ ?_;clear hK K))|((with_reducible refine gO ?_);(first|((with_reducible first|refine z25 ?_|refine z26 ?_);intro K hK;(conv=>whnf))|(with_reducible refine z0 ?_)))|((first|((with_reducible refine gI ?_);(first|((with_reducible refine NIf.decY ?s ?_);case s=>assumption)|((with_reducible refine NIf.decN ?s ?_);case s=>assumption)|(with_reducible refine NIf.dec (fun _=>?_) (fun _=>?_))))|((with_reducible refine gN ?_);(with_reducible refine NN.a5 ?_))|((with_reducible refine gH ?_);((with_reducible refine NH.mk ?s ?_);case s=>(and_intros<;>with_reducible rfl)))|(with_reducible refine NLd.of (by with_reducible assumption) ?_))<;>(conv=>whnf))|((with_reducible refine gX ?_);((with_reducible first|refine z3 ?_|refine z4 ?_|refine z8 ?_)))|(with_reducible first|refine z1 ?_|refine z2 ?_)|((with_reducible refine gR ?_);((refine z31 rfl ?_);intro K hK;(conv=>whnf)))|((with_reducible refine gF ?_);((refine z33 rfl ?_);intro K hK;(conv=>whnf)))|((intro _;skip)<;>(conv=>whnf))))
  all_goals
    refine ⟨?_, MemFits.pre 1 rfl⟩
    simp_all
theorem isHs_c (x : Tp.Hs) (p : Int) (b : Addr) (h : F.c (b.add 0) (.int .i64 p)) : NCall Tryz.prog 44 [.agg (Tp.hsC x), .hp b 0] [hpB F] fun r m => r = .bool (Tp.hNamed p x) ∧ m = [hpB F] := by
  refine NCall.fits (K := fun r m => r = .bool (Tp.hNamed p x) ∧ MemFits m [hpB F]) ?_ fun r m' h => ⟨r, _, rfl, h.2, h.1, rfl⟩
  obtain ⟨at_, port⟩ := x
  simp only [Tp.lkC, Tp.hsC, Tp.lNamed, Tp.hNamed]
  refine ncall_of Tryz.func44 rfl (by decide) ?_
  (repeat' (first|(with_reducible first|(refine hK _ _ ?_;clear hK K)|(refine hK _ ?_;clear hK K))|((with_reducible refine gO ?_);(first|((with_reducible refine z25 ?_);intro K hK;(conv=>whnf))|(with_reducible refine z0 ?_)))|((first|((with_reducible refine gN ?_);(with_reducible refine NN.a5 ?_))|((with_reducible refine gH ?_);((with_reducible refine NH.mk ?s ?_);case s=>(and_intros<;>with_reducible rfl)))|(with_reducible refine NLd.of (by with_reducible assumption) ?_))<;>(conv=>whnf))|((with_reducible refine gX ?_);((with_reducible first|refine z3 ?_|refine z4 ?_|refine z8 ?_)))|(with_reducible first|refine z1 ?_|refine z2 ?_)|((with_reducible refine gR ?_);((refine z31 rfl ?_);intro K hK;(conv=>whnf)))|((with_reducible refine gF ?_);((refine z33 rfl ?_);intro K hK;(conv=>whnf)))|((intro _;skip)<;>(conv=>whnf))))
  all_goals
    refine ⟨?_, MemFits.pre 1 rfl⟩
    simp_all
theorem named30_c (t : Tp.T) (lv hv : Value) (p : Int) (ht : Tp.At F t lv hv) (hl : t.ls.length ≤ 1000) (hh : t.hs.length ≤ 1000) : NCall Tryz.prog 11 [.agg (Tp.cs t lv hv), .int .i64 p] [hpB F] fun r m => r = .bool (Tp.named t p) ∧ m = [hpB F] := by
  refine NCall.fits (K := fun r m => r = .bool (Tp.named t p) ∧ MemFits m [hpB F]) ?_ fun r m' h => ⟨r, _, rfl, h.2, h.1, rfl⟩
  have hlo := ht.l.ok
  have hho := ht.h.ok
  have cl : ∀ b : Addr, NCall Tryz.prog 41 [.hs lv t.ls.length, .fn 42 [] [.ptr 1 b 0]] [hpB F, ⟨b, [.int .i64 p], .var 3⟩] fun r m => r = .bool (t.ls.any (Tp.lNamed p)) ∧ m = [hpB F, ⟨b, [.int .i64 p], .var 3⟩] := fun b => by
    have hnew := addF.new (F := F) (a := b) (vs := denL [.int .i64 p])
    obtain ⟨c0, _⟩ := hnew
    exact NCall.keep (containsLk_c (addF F b (denL [.int .i64 p])) (Tp.lNamed p) lv t.ls (Tp.LRow.mono addF.old ht.l) (by omega) 42 [] [.hp b 0] fun x _ => isLk_c _ x p b c0) rfl (MemFits.freezeVar (m := [])) rfl fun r mL' h => ⟨r, rfl, h.1, rfl⟩
  have ch : ∀ b : Addr, NCall Tryz.prog 43 [.hs hv t.hs.length, .fn 44 [] [.ptr 1 b 0]] [hpB F, ⟨b, [.int .i64 p], .var 3⟩] fun r m => r = .bool (t.hs.any (Tp.hNamed p)) ∧ m = [hpB F, ⟨b, [.int .i64 p], .var 3⟩] := fun b => by
    have hnew := addF.new (F := F) (a := b) (vs := denL [.int .i64 p])
    obtain ⟨c0, _⟩ := hnew
    exact NCall.keep (containsHs_c (addF F b (denL [.int .i64 p])) (Tp.hNamed p) hv t.hs (Tp.HRow.mono addF.old ht.h) (by omega) 44 [] [.hp b 0] fun x _ => isHs_c _ x p b c0) rfl (MemFits.freezeVar (m := [])) rfl fun r mL' h => ⟨r, rfl, h.1, rfl⟩
  refine ncall_of Tryz.func11 rfl (by decide) ?_
  unfold Tp.named Tp.cs
  generalize t.ls.any (Tp.lNamed p) = bl at *
  generalize t.hs.any (Tp.hNamed p) = bh at *
  cases bl
  · (repeat' (first|(with_reducible first|(refine hK _ _ ?_;clear hK K)|(refine hK _ ?_;clear hK K))|((with_reducible refine gO ?_);(first|((with_reducible first|refine z25 ?_|refine z26 ?_);intro K hK;(conv=>whnf))|(with_reducible refine z0 ?_)))|((first|((with_reducible refine gI ?_);(((with_reducible refine NIf.no ?s ?_);case s=>rfl)))|((with_reducible refine gN ?_);(with_reducible refine NN.a5 ?_))|((with_reducible refine gH ?_);((with_reducible refine NH.mk ?s ?_);case s=>(and_intros<;>with_reducible rfl)))|((with_reducible refine gC ?_);(first|((with_reducible refine NCall.isF 41 ?_);refine NCall.subE [0, 2] (cl _) rfl (by decide) rfl rfl ?_)|((with_reducible refine NCall.isF 43 ?_);refine NCall.subE [0, 2] (ch _) rfl (by decide) rfl rfl ?_))))<;>(conv=>whnf))|((with_reducible refine gX ?_);((with_reducible first|refine z3 ?_|refine z4 ?_|refine z8 ?_)))|(with_reducible first|refine z1 ?_|refine z2 ?_)|((with_reducible refine gR ?_);((refine z31 rfl ?_);intro K hK;(conv=>whnf)))|((with_reducible refine gF ?_);((refine z33 rfl ?_);intro K hK;(conv=>whnf)))|((intro _;skip)<;>(conv=>whnf))))
    all_goals exact ⟨rfl, MemFits.pre 1 rfl⟩
  · (repeat' (first|(with_reducible first|(refine hK _ _ ?_;clear hK K)|(refine hK _ ?_;clear hK K))|((with_reducible refine gO ?_);(first|((with_reducible first|refine z25 ?_|refine z26 ?_);intro K hK;(conv=>whnf))|(with_reducible refine z0 ?_)))|((first|((with_reducible refine gI ?_);(((with_reducible refine NIf.yes ?s ?_);case s=>rfl)))|((with_reducible refine gN ?_);(with_reducible refine NN.a5 ?_))|((with_reducible refine gH ?_);((with_reducible refine NH.mk ?s ?_);case s=>(and_intros<;>with_reducible rfl)))|((with_reducible refine gC ?_);(((with_reducible refine NCall.isF 41 ?_);refine NCall.subE [0, 2] (cl _) rfl (by decide) rfl rfl ?_))))<;>(conv=>whnf))|((with_reducible refine gX ?_);((with_reducible first|refine z3 ?_|refine z4 ?_|refine z8 ?_)))|(with_reducible first|refine z1 ?_|refine z2 ?_)|((with_reducible refine gR ?_);((refine z31 rfl ?_);intro K hK;(conv=>whnf)))|((with_reducible refine gF ?_);((refine z33 rfl ?_);intro K hK;(conv=>whnf)))|((intro _;skip)<;>(conv=>whnf))))
    all_goals exact ⟨rfl, MemFits.pre 1 rfl⟩
theorem refnamed30_c (t : Tp.T) (lv hv : Value) (p : Int) (ht : Tp.At F t lv hv) (hl : t.ls.length ≤ 1000) (hh : t.hs.length ≤ 1000) : NCall Tryz.prog 12 [.agg (Tp.cs t lv hv), .int .i64 p] [hpB F] fun r m => r = .bool (Tp.named t p) ∧ m = [hpB F] := by
  refine NCall.fits (K := fun r m => r = .bool (Tp.named t p) ∧ MemFits m [hpB F]) ?_ fun r m' h => ⟨r, _, rfl, h.2, h.1, rfl⟩
  have hlo := ht.l.ok
  have hho := ht.h.ok
  refine ncall_of Tryz.func12 rfl (by decide) ?_
  unfold Tp.named Tp.cs
  (repeat' (first|(with_reducible first|(refine hK _ _ ?_;clear hK K)|(refine hK _ ?_;clear hK K))|((with_reducible refine gO ?_);(first|((with_reducible refine z25 ?_);intro K hK;(conv=>whnf))|(with_reducible refine z0 ?_)))|((with_reducible refine gX ?_);((with_reducible first|refine z3 ?_|refine z4 ?_|refine z5 ?_)))|(with_reducible first|refine z1 ?_|refine z2 ?_)|((with_reducible refine gF ?_);((refine z33 rfl ?_);intro K hK;(conv=>whnf)))|((intro _;skip)<;>(conv=>whnf))))
  refine st_auto (α := Nat) (fun i => i ≤ t.ls.length ∧ (t.ls.take i).any (Tp.lNamed p) = false) (fun i => [.keep, .keep, .keep, .keep, .set (.bool false), .set (.int .i64 i), .keep, .drop, .drop, .drop, .drop, .drop, .drop, .drop, .drop, .drop, .drop, .drop, .drop, .drop, .drop, .drop, .drop, .drop, .drop, .drop, .drop, .drop, .drop, .drop, .drop, .drop, .keep, .keep, .keep, .keep, .keep, .keep, .keep, .keep, .keep, .keep, .keep, .keep, .keep, .keep, .keep]) (fun _ => []) (fun i => t.ls.length - i) 0 ⟨Nat.zero_le _, rfl⟩ ?_ (MemFits.eq rfl) ?_
  · repeat (first | exact FitsSl.nil | refine FitsSl.any ?_ | refine FitsSl.cons (Fit1.int (by first | rfl | omega)) ?_ | refine FitsSl.cons (Fit1.bool rfl) ?_ | refine FitsSl.cons (Fit1.str rfl) ?_ | refine FitsSl.cons (Fit1.same (by intro h; cases h) (by with_reducible rfl)) ?_ | refine FitsSl.cons Fit1.nil_sl ?_ | refine FitsSl.cons (Fit1.hs rfl) ?_ | refine FitsSl.cons (Fit1.hp rfl rfl) ?_ | refine FitsSl.cons (Fit1.sl rfl) ?_ | refine FitsSl.cons (Fit1.ptr rfl rfl) ?_ | refine FitsSl.cons Fit1.raw ?_)
  (intro i ⟨hi, hgone⟩; intro K hK; (conv=>whnf); refine hK _ _ ?_; clear hK K)
  by_cases hlt : i < t.ls.length
  · have hx : t.ls[i]? = some t.ls[i] := List.getElem?_eq_getElem hlt
    obtain ⟨c0, c1, c2, c3, c4, c5⟩ := ht.l.get hx
    have hnx := any_next (q := Tp.lNamed p) hx
    have hat := any_at (q := Tp.lNamed p) hx
    generalize t.ls[i] = x at *
    obtain ⟨a, pa, b, pb, least, most⟩ := x
    simp only [Tp.lNamed] at hnx hat
    by_cases h1 : pa = p
    · rw [hat (by simp [h1])]
      (repeat' (first|(with_reducible first|(refine hK _ _ ?_;clear hK K)|(refine hA ?_;clear hA hB A B)|(refine hK _ ?_;clear hK K))|((with_reducible refine gO ?_);(first|((with_reducible first|refine z25 ?_|refine z26 ?_);intro K hK;(conv=>whnf))|(with_reducible refine z0 ?_)))|((first|((with_reducible refine gI ?_);(first|((with_reducible refine NIf.decY ?s ?_);case s=>first|assumption|omega)|((with_reducible refine NIf.yes ?s ?_);case s=>rfl)))|((with_reducible refine gN ?_);(with_reducible first|refine NN.cast ?_|refine NN.a5 ?_|refine NN.a6 ?_|refine NN.keep ?_))|((with_reducible refine gH ?_);((with_reducible refine NH.mk ?s ?_);case s=>(and_intros<;>first|with_reducible rfl|omega)))|(with_reducible refine NLd.of (by with_reducible assumption) ?_))<;>(conv=>whnf))|((with_reducible refine gX ?_);(first|(with_reducible first|refine z3 ?_|refine z4 ?_|refine z5 ?_|refine z6 ?_|refine z8 ?_)|((with_reducible refine z29 ?_);intro A B hA hB;(conv=>whnf))))|(with_reducible first|refine z1 ?_|refine z2 ?_|refine z12 ?_|refine z13 ?_|refine z20 ?_)|((with_reducible refine gR ?_);((refine z31 rfl ?_);intro K hK;(conv=>whnf)))))
      all_goals first
        | exact ⟨rfl, MemFits.pre 1 rfl⟩
        | (exfalso; omega)
    by_cases h2 : pb = p
    · rw [hat (by simp [h2])]
      (repeat' (first|(with_reducible first|(refine hK _ _ ?_;clear hK K)|(refine hA ?_;clear hA hB A B)|(refine hK _ ?_;clear hK K))|((with_reducible refine gO ?_);(first|((with_reducible first|refine z25 ?_|refine z26 ?_);intro K hK;(conv=>whnf))|(with_reducible refine z0 ?_)))|((first|((with_reducible refine gI ?_);(first|((with_reducible refine NIf.decY ?s ?_);case s=>first|assumption|omega)|((with_reducible refine NIf.decN ?s ?_);case s=>assumption)))|((with_reducible refine gN ?_);(with_reducible first|refine NN.cast ?_|refine NN.a5 ?_|refine NN.a6 ?_|refine NN.keep ?_))|((with_reducible refine gH ?_);((with_reducible refine NH.mk ?s ?_);case s=>(and_intros<;>first|with_reducible rfl|omega)))|(with_reducible refine NLd.of (by with_reducible assumption) ?_))<;>(conv=>whnf))|((with_reducible refine gX ?_);(first|(with_reducible first|refine z3 ?_|refine z4 ?_|refine z5 ?_|refine z6 ?_|refine z8 ?_)|((with_reducible refine z29 ?_);intro A B hA hB;(conv=>whnf))))|(with_reducible first|refine z1 ?_|refine z2 ?_|refine z12 ?_|refine z13 ?_|refine z20 ?_)|((with_reducible refine gR ?_);((refine z31 rfl ?_);intro K hK;(conv=>whnf)))))
      all_goals first
        | exact ⟨rfl, MemFits.pre 1 rfl⟩
        | (exfalso; omega)
    (repeat' (first|(with_reducible first|(refine hK _ _ ?_;clear hK K)|(refine hA ?_;clear hA hB A B)|(refine hB ?_;clear hA hB A B))|((with_reducible refine gO ?_);(first|((with_reducible first|refine z25 ?_|refine z26 ?_);intro K hK;(conv=>whnf))|(with_reducible refine z0 ?_)))|((first|((with_reducible refine gV ?_);(((with_reducible refine NV.i64 ?s ?_);case s=>omega)))|((with_reducible refine gI ?_);(first|((with_reducible refine NIf.decY ?s ?_);case s=>omega)|((with_reducible refine NIf.decN ?s ?_);case s=>assumption)))|((with_reducible refine gN ?_);(with_reducible first|refine NN.cast ?_|refine NN.a5 ?_|refine NN.a6 ?_|refine NN.keep ?_))|((with_reducible refine gH ?_);((with_reducible refine NH.mk ?s ?_);case s=>(and_intros<;>first|with_reducible rfl|omega)))|(with_reducible refine NLd.of (by with_reducible assumption) ?_))<;>(conv=>whnf))|((with_reducible refine gX ?_);(first|(with_reducible first|refine z3 ?_|refine z4 ?_|refine z5 ?_|refine z6 ?_)|((with_reducible refine z29 ?_);intro A B hA hB;(conv=>whnf))))|(with_reducible first|refine z1 ?_|refine z2 ?_|refine z9 ?_)))
    refine st_round (i + 1) ⟨hlt, by rw [hnx, hgone]; simp [h1, h2]⟩ (by omega) ?_ (MemFits.pre 2 rfl)
    repeat (first | exact FitsSl.nil | refine FitsSl.any ?_ | refine FitsSl.cons (Fit1.int (by first | rfl | omega)) ?_ | refine FitsSl.cons (Fit1.bool rfl) ?_ | refine FitsSl.cons (Fit1.str rfl) ?_ | refine FitsSl.cons (Fit1.same (by intro h; cases h) (by with_reducible rfl)) ?_ | refine FitsSl.cons Fit1.nil_sl ?_ | refine FitsSl.cons (Fit1.hs rfl) ?_ | refine FitsSl.cons (Fit1.hp rfl rfl) ?_ | refine FitsSl.cons (Fit1.sl rfl) ?_ | refine FitsSl.cons (Fit1.ptr rfl rfl) ?_ | refine FitsSl.cons Fit1.raw ?_)
  have hkl : i = t.ls.length := by omega
  subst hkl
  rw [List.take_length] at hgone
  rw [hgone, Bool.false_or]
  (repeat' (first|(with_reducible first|(refine hK _ _ ?_;clear hK K)|(refine hB ?_;clear hA hB A B))|((with_reducible refine gO ?_);(first|((with_reducible refine z25 ?_);intro K hK;(conv=>whnf))|(with_reducible refine z0 ?_)))|((first|((with_reducible refine gI ?_);(((with_reducible refine NIf.decN ?s ?_);case s=>omega)))|((with_reducible refine gN ?_);(with_reducible refine NN.a5 ?_))|((with_reducible refine gH ?_);((with_reducible refine NH.mk ?s ?_);case s=>(and_intros<;>first|with_reducible rfl|omega))))<;>(conv=>whnf))|((with_reducible refine gX ?_);(first|(with_reducible first|refine z3 ?_|refine z4 ?_|refine z5 ?_|refine z7 ?_)|((with_reducible refine z29 ?_);intro A B hA hB;(conv=>whnf))))|(with_reducible first|refine z1 ?_|refine z2 ?_|refine z10 ?_|refine z11 ?_|refine z19 ?_)))
  refine st_auto (α := Nat) (fun i => i ≤ t.hs.length ∧ (t.hs.take i).any (Tp.hNamed p) = false) (fun i => [.keep, .keep, .keep, .keep, .set (.bool false), .keep, .set (.int .i64 i), .keep, .keep, .keep, .keep, .keep, .keep, .keep, .keep, .keep, .keep, .keep, .keep, .keep, .keep, .keep, .keep, .keep, .keep, .keep, .keep, .keep, .keep, .keep, .keep, .keep, .drop, .drop, .drop, .drop, .drop, .drop, .drop, .drop, .drop, .drop, .drop, .drop, .drop, .drop, .drop]) (fun _ => []) (fun i => t.hs.length - i) 0 ⟨Nat.zero_le _, rfl⟩ ?_ (MemFits.eq rfl) ?_
  · repeat (first | exact FitsSl.nil | refine FitsSl.any ?_ | refine FitsSl.cons (Fit1.int (by first | rfl | omega)) ?_ | refine FitsSl.cons (Fit1.bool rfl) ?_ | refine FitsSl.cons (Fit1.str rfl) ?_ | refine FitsSl.cons (Fit1.same (by intro h; cases h) (by with_reducible rfl)) ?_ | refine FitsSl.cons Fit1.nil_sl ?_ | refine FitsSl.cons (Fit1.hs rfl) ?_ | refine FitsSl.cons (Fit1.hp rfl rfl) ?_ | refine FitsSl.cons (Fit1.sl rfl) ?_ | refine FitsSl.cons (Fit1.ptr rfl rfl) ?_ | refine FitsSl.cons Fit1.raw ?_)
  (intro i ⟨hi, hgone⟩; intro K hK; (conv=>whnf); refine hK _ _ ?_; clear hK K)
  by_cases hlt : i < t.hs.length
  · have hx : t.hs[i]? = some t.hs[i] := List.getElem?_eq_getElem hlt
    obtain ⟨c0, c1⟩ := ht.h.get hx
    have hnx := any_next (q := Tp.hNamed p) hx
    have hat := any_at (q := Tp.hNamed p) hx
    generalize t.hs[i] = x at *
    obtain ⟨at_, port⟩ := x
    simp only [Tp.hNamed] at hnx hat
    by_cases h1 : port = p
    · rw [hat (by simp [h1])]
      (repeat' (first|(with_reducible first|(refine hK _ _ ?_;clear hK K)|(refine hA ?_;clear hA hB A B)|(refine hK _ ?_;clear hK K))|((with_reducible refine gO ?_);(first|((with_reducible refine z25 ?_);intro K hK;(conv=>whnf))|(with_reducible refine z0 ?_)))|((first|((with_reducible refine gI ?_);(((with_reducible refine NIf.decY ?s ?_);case s=>first|assumption|omega)))|((with_reducible refine gN ?_);(with_reducible first|refine NN.cast ?_|refine NN.a5 ?_|refine NN.a6 ?_|refine NN.keep ?_))|((with_reducible refine gH ?_);((with_reducible refine NH.mk ?s ?_);case s=>(and_intros<;>first|with_reducible rfl|omega)))|(with_reducible refine NLd.of (by with_reducible assumption) ?_))<;>(conv=>whnf))|((with_reducible refine gX ?_);(first|(with_reducible first|refine z3 ?_|refine z4 ?_|refine z5 ?_|refine z6 ?_|refine z8 ?_)|((with_reducible refine z29 ?_);intro A B hA hB;(conv=>whnf))))|(with_reducible first|refine z1 ?_|refine z2 ?_|refine z12 ?_|refine z13 ?_|refine z20 ?_)|((with_reducible refine gR ?_);((refine z31 rfl ?_);intro K hK;(conv=>whnf)))))
      all_goals first
        | exact ⟨rfl, MemFits.pre 1 rfl⟩
        | (exfalso; omega)
    (repeat' (first|(with_reducible first|(refine hK _ _ ?_;clear hK K)|(refine hA ?_;clear hA hB A B)|(refine hB ?_;clear hA hB A B))|((with_reducible refine gO ?_);(first|((with_reducible refine z25 ?_);intro K hK;(conv=>whnf))|(with_reducible refine z0 ?_)))|((first|((with_reducible refine gV ?_);(((with_reducible refine NV.i64 ?s ?_);case s=>omega)))|((with_reducible refine gI ?_);(first|((with_reducible refine NIf.decY ?s ?_);case s=>omega)|((with_reducible refine NIf.decN ?s ?_);case s=>assumption)))|((with_reducible refine gN ?_);(with_reducible first|refine NN.cast ?_|refine NN.a5 ?_|refine NN.a6 ?_|refine NN.keep ?_))|((with_reducible refine gH ?_);((with_reducible refine NH.mk ?s ?_);case s=>(and_intros<;>first|with_reducible rfl|omega)))|(with_reducible refine NLd.of (by with_reducible assumption) ?_))<;>(conv=>whnf))|((with_reducible refine gX ?_);(first|(with_reducible first|refine z3 ?_|refine z4 ?_|refine z5 ?_|refine z6 ?_)|((with_reducible refine z29 ?_);intro A B hA hB;(conv=>whnf))))|(with_reducible first|refine z1 ?_|refine z2 ?_|refine z9 ?_)))
    refine st_round (i + 1) ⟨hlt, by rw [hnx, hgone]; simp [h1]⟩ (by omega) ?_ (MemFits.pre 2 rfl)
    repeat (first | exact FitsSl.nil | refine FitsSl.any ?_ | refine FitsSl.cons (Fit1.int (by first | rfl | omega)) ?_ | refine FitsSl.cons (Fit1.bool rfl) ?_ | refine FitsSl.cons (Fit1.str rfl) ?_ | refine FitsSl.cons (Fit1.same (by intro h; cases h) (by with_reducible rfl)) ?_ | refine FitsSl.cons Fit1.nil_sl ?_ | refine FitsSl.cons (Fit1.hs rfl) ?_ | refine FitsSl.cons (Fit1.hp rfl rfl) ?_ | refine FitsSl.cons (Fit1.sl rfl) ?_ | refine FitsSl.cons (Fit1.ptr rfl rfl) ?_ | refine FitsSl.cons Fit1.raw ?_)
  have hkl : i = t.hs.length := by omega
  subst hkl
  rw [List.take_length] at hgone
  rw [hgone]
  (repeat' (first|(with_reducible first|(refine hK _ _ ?_;clear hK K)|(refine hB ?_;clear hA hB A B)|(refine hK _ ?_;clear hK K))|((with_reducible refine gO ?_);(first|((with_reducible refine z25 ?_);intro K hK;(conv=>whnf))|(with_reducible refine z0 ?_)))|((first|((with_reducible refine gI ?_);(((with_reducible refine NIf.decN ?s ?_);case s=>omega)))|((with_reducible refine gN ?_);(with_reducible refine NN.a5 ?_))|((with_reducible refine gH ?_);((with_reducible refine NH.mk ?s ?_);case s=>(and_intros<;>first|with_reducible rfl|omega))))<;>(conv=>whnf))|((with_reducible refine gX ?_);(first|(with_reducible first|refine z3 ?_|refine z4 ?_|refine z7 ?_|refine z8 ?_)|((with_reducible refine z29 ?_);intro A B hA hB;(conv=>whnf))))|(with_reducible first|refine z1 ?_|refine z2 ?_|refine z10 ?_|refine z11 ?_|refine z19 ?_)|((with_reducible refine gR ?_);((refine z31 rfl ?_);intro K hK;(conv=>whnf)))))
  all_goals exact ⟨rfl, MemFits.pre 1 rfl⟩
end
end Go.Proofs.YtpkjnmddembkjaaGreatDoor
namespace Go.Proofs.YtpkjnmddembkjaaGreatDoor
open Go.Sx
set_option maxRecDepth 20000
set_option linter.unusedSimpArgs false
set_option linter.unusedVariables false
set_option maxHeartbeats 4000000
set_option linter.unusedVariables false
theorem Srt.reads {F : Heap} {v : Value} {l : List Int} (h : Srt.Row F v l) : (Srt.av l).length = l.length * 1 ∧ CellsF F (addrOf v) 0 (denL (Srt.av l)) := by
  rw [Srt.av_flat]
  exact ⟨by rw [Srt.av_len]; omega, h.all.1⟩
theorem Srt.ones (l : List Int) : Go.Sx.ones (Srt.av l) = true := by
  induction l with
  | nil => rfl
  | cons x l ih => simpa [Srt.av, Go.Sx.ones] using ih
theorem Po.values_comp (f : Int) (x : Po.T) : Srt.comp (Srt.sort (Po.vals f x)) = Po.values f x := Pd.comp_once _
theorem values27_c (f : Int) (hf : -9223372036854775808 ≤ f ∧ f ≤ 9223372036854775807) : ∀ (n : Nat) (F : Heap) (x : Po.T) (pu u : Value) (out : List Int) (w : Value), Po.tot x ≤ n → out.length + Po.tot x ≤ 2932031007402 → Po.At F x pu u →
    NCall Tryz.prog 69 [.sl 1 w out.length, .agg (Po.cs x pu u), .int .i64 f] [hpB F, ⟨addrOf w, Srt.av out, .row w 3 1 out.length⟩]
      fun r m => ∃ F' w', F.le F' ∧ r = .sl 1 w' (out ++ Po.vals f x).length ∧ m = [hpB F', ⟨addrOf w', Srt.av (out ++ Po.vals f x), .row w' 3 1 (out ++ Po.vals f x).length⟩]
  | 0, F, x, pu, u, out, w, hn, _, _ => absurd (Po.tot_pos x) (by omega)
  | n + 1, F, ⟨k, p, a, v, l⟩, pu, u, out, w, hn, hs, hx => by
    refine NCall.fits (K := fun r m => ∃ F' w', F.le F' ∧ r = .sl 1 w' (out ++ Po.vals f (.mk k p a v l)).length ∧ MemFits m [hpB F', ⟨addrOf w', Srt.av (out ++ Po.vals f (.mk k p a v l)), .row w' 3 1 (out ++ Po.vals f (.mk k p a v l)).length⟩]) ?_ fun r m' ⟨F', w', h0, h1, h2⟩ => ⟨r, _, rfl, h2, F', w', h0, h1, rfl⟩
    have hu : Po.Row F u l := hx.l
    have hpu : Pd.Row F pu p.l := hx.p
    have hok := hu.ok
    have hpok := hpu.ok
    have e2 := Po.tot_mk k p a v l
    have hll := Po.length_le l
    have ih : ∀ G, ∀ x ∈ l, ∀ pA A, Po.At G x pA A → ∀ (o : List Int) (w : Value), o.length + Po.tot x ≤ 2932031007402 → NCall Tryz.prog 69 [.sl 1 w o.length, .agg (Po.cs x pA A), .int .i64 f] [hpB G, ⟨addrOf w, Srt.av o, .row w 3 1 o.length⟩]
        fun r m => ∃ F' w', G.le F' ∧ r = .sl 1 w' (o ++ Po.vals f x).length ∧ m = [hpB F', ⟨addrOf w', Srt.av (o ++ Po.vals f x), .row w' 3 1 (o ++ Po.vals f x).length⟩] :=
      fun G x hx pA A hA o w ho => values27_c f hf n G x pA A o w (by have := Po.tot_lt (k := k) (q := p) (f := a) (v := v) hx; omega) ho hA
    have cv := Values26_c F p pu f hf (by omega) hpu
    have hpl := Po.pvalues_len f p
    have hol : out.length ≤ out.length := Nat.le_refl _
    have hav := Srt.av_len out
    have hfin : ∀ o1, out ++ (if k = 2 ∧ a = f then [v] else []) ++ Pd.values f p = o1 → out ++ Po.vals f (.mk k p a v l) = o1 ++ Po.valsL f l := fun o1 e => by rw [Po.vals, ← e]; simp [List.append_assoc]
    have hvl : ∀ i, (Po.valsL f (l.take i)).length ≤ Po.totL (l.take i) := fun i => Po.valsL_len f _
    generalize hL : Pd.values f p = L at *
    clear hL hx
    rw [po_cs]
    obtain ⟨pk, pf, pv, pl⟩ := p
    simp only [pd_cs, Pd.T.k, Pd.T.f, Pd.T.v, Pd.T.l] at *
    refine ncall_of Tryz.func69 rfl (by decide) ?_
    by_cases hk : k = 2
    · subst hk
      by_cases ha : a = f
      · subst ha
        have hLo := fun (F1 : Heap) (v1 : Value) (h : Srt.Row F1 v1 L) => h.ok
        have hfin := hfin (out ++ [v] ++ L) (by simp)
        rw [hfin]
        have hol1 : (out ++ [v] ++ L).length = out.length + (0 + 1) + L.length := by
          simp only [List.length_append, List.length_cons, List.length_nil]
        have hav1 : Srt.av (out ++ [v] ++ L) = Srt.av out ++ Srt.av [v] ++ Srt.av L := by simp only [Srt.av_append]
        clear hfin hn
        generalize ho1 : out ++ [v] ++ L = o1 at *
        generalize Srt.av out = ao at *
        (repeat' (first|(with_reducible first|(refine hK _ _ ?_;clear hK K)|(refine hA ?_;clear hA hB A B)|(refine hK _ ?_;clear hK K))|((with_reducible refine gO ?_);(first|((with_reducible first|refine z25 ?_|refine z26 ?_);intro K hK;(conv=>whnf))|(with_reducible refine z0 ?_)))|((first|((with_reducible refine gI ?_);(((with_reducible refine NIf.decY ?s ?_);case s=>with_reducible rfl)))|((with_reducible refine gN ?_);(with_reducible refine NN.a5 ?_))|((with_reducible refine gH ?_);((((with_reducible refine NH.mk ?side ?_); case side => (and_intros <;> first | with_reducible rfl | omega | ((first | exact hrow.ok | exact Srt.ones _ | rfl)))))))|((with_reducible refine gC ?_);((with_reducible refine NCall.isF 28 ?_);refine NCall.subw [0] _ _ (cv) rfl (by decide) rfl ?_; rintro _ _ ⟨F1, v1, hle1, hrow, rfl, rfl⟩; refine ⟨Nat.le_of_ble_eq_true rfl, _, rfl, ?_⟩)))<;>(conv=>whnf))|(refine NRd.of (Srt.av L) (Srt.reads hrow).1 (Srt.reads hrow).2 ?_; conv=>whnf)|((with_reducible refine gX ?_);(first|(with_reducible first|refine z3 ?_|refine z4 ?_|refine z5 ?_)|((with_reducible refine z29 ?_);intro A B hA hB;(conv=>whnf))))|(with_reducible first|refine z1 ?_|refine z2 ?_)|((with_reducible refine gF ?_);((refine z33 rfl ?_);intro K hK;(conv=>whnf)))|((intro _;skip)<;>(conv=>whnf))))
        rename_i w2
        have e0 : o1 ++ Po.valsL a (l.take 0) = o1 := by simp [Po.valsL]
        refine st_auto (α := Heap × Value × Nat) (fun (G, w, i) => F.le G ∧ i ≤ l.length) (fun (G, w, i) => [.set (.sl 1 w (o1 ++ Po.valsL a (l.take i)).length), .keep, .keep, .keep, .keep, .keep, .keep, .keep, .drop, .keep, .keep, .keep, .keep, .keep, .keep, .keep, .keep, .keep, .keep, .keep, .keep, .keep, .keep, .keep, .keep, .keep, .keep, .keep, .keep, .keep, .keep, .keep, .set (.int .i64 i), .drop, .drop, .drop, .drop, .drop, .drop, .drop, .drop, .keep]) (fun (G, w, i) => [.set (hpB G), .set ⟨addrOf w, Srt.av (o1 ++ Po.valsL a (l.take i)), .row w 3 1 (o1 ++ Po.valsL a (l.take i)).length⟩]) (fun (G, w, i) => l.length - i) (F1, w2, 0) ⟨hle1, Nat.zero_le _⟩ ?_ ?_ ?_
        · dsimp only
          rw [e0, hol1]
          repeat (first | exact FitsSl.nil | refine FitsSl.any ?_ | refine FitsSl.cons (Fit1.int (by first | rfl | omega)) ?_ | refine FitsSl.cons (Fit1.bool rfl) ?_ | refine FitsSl.cons (Fit1.str rfl) ?_ | refine FitsSl.cons (Fit1.same (by intro h; cases h) (by with_reducible rfl)) ?_ | refine FitsSl.cons Fit1.nil_sl ?_ | refine FitsSl.cons (Fit1.hs rfl) ?_ | refine FitsSl.cons (Fit1.hp rfl rfl) ?_ | refine FitsSl.cons (Fit1.sl rfl) ?_ | refine FitsSl.cons (Fit1.ptr rfl rfl) ?_ | refine FitsSl.cons Fit1.raw ?_)
        · dsimp only
          rw [e0]
          exact MemFits.congr (by simp only [autoM, hav1, hol1, List.append_nil]; try rfl)
        (intro ⟨G, w, i⟩ ⟨hle, hi⟩; intro K hK; (conv=>whnf); refine hK _ _ ?_; clear hK K)
        dsimp only
        by_cases hlt : i < l.length
        · have hx : l[i]? = some l[i] := List.getElem?_eq_getElem hlt
          obtain ⟨pA, pcap, A, cap, hA, c0, c1, c2, c3, c4, c5, c6, c7⟩ := (Po.Row.mono hle hu).get hx
          have hAo := hA.l.ok
          have hAp := hA.p.ok
          have hmem := List.mem_of_getElem? hx
          have hst := Po.totL_take hlt
          have hle2 := Po.totL_le (l := l) (k := i + 1)
          have hvi := hvl i
          have hO : o1 ++ Po.valsL a (l.take (i + 1)) = o1 ++ Po.valsL a (l.take i) ++ Po.vals a l[i] := by rw [Po.valsL_take _ hlt, List.append_assoc]
          have hlo : (o1 ++ Po.valsL a (l.take i)).length = o1.length + (Po.valsL a (l.take i)).length := List.length_append
          have c := ih G _ hmem _ _ hA (o1 ++ Po.valsL a (l.take i)) w (by omega)
          rw [← hO] at c
          clear ih hvl hO
          generalize l[i] = y at *
          obtain ⟨yk, ⟨ypk, ypf, ypv, ypl⟩, yf, yv, yl⟩ := y
          simp only [Po.cs, Po.T.k, Po.T.p, Po.T.f, Po.T.v, Po.T.l, Pd.T.k, Pd.T.f, Pd.T.v, Pd.T.l] at c c0 c1 c2 c3 c4 c5 c6 c7 hAo hAp
          generalize o1 ++ Po.valsL a (l.take i) = O at *
          generalize hO2 : o1 ++ Po.valsL a (l.take (i + 1)) = O2 at *
          (repeat' (first|(with_reducible first|(refine hK _ _ ?_;clear hK K)|(refine hA ?_;clear hA hB A B))|((with_reducible refine gO ?_);(first|((with_reducible refine z25 ?_);intro K hK;(conv=>whnf))|(with_reducible refine z0 ?_)))|((first|((with_reducible refine gV ?_);(((with_reducible refine NV.i64 ?s ?_);case s=>omega)))|((with_reducible refine gI ?_);(((with_reducible refine NIf.decY ?s ?_);case s=>omega)))|((with_reducible refine gN ?_);(with_reducible first|refine NN.cast ?_|refine NN.keep ?_))|((with_reducible refine gH ?_);((with_reducible refine NH.mk ?s ?_);case s=>(and_intros<;>first|with_reducible rfl|((with_reducible refine gOnes ?_);rfl)|((with_reducible refine gLen ?_);rfl)|omega)))|((with_reducible refine gC ?_);((with_reducible refine NCall.isF 69 ?_);refine NCall.subw [0, 1] _ _ (c) rfl (by decide) rfl ?_; rintro _ _ ⟨G', w', hle3, rfl, rfl⟩; refine ⟨Nat.le_of_ble_eq_true rfl, _, rfl, ?_⟩))|(with_reducible refine NLd.of (by with_reducible assumption) ?_))<;>(conv=>whnf))|((with_reducible refine gX ?_);(first|(with_reducible first|refine z3 ?_|refine z4 ?_|refine z5 ?_|refine z6 ?_)|((with_reducible refine z29 ?_);intro A B hA hB;(conv=>whnf))))|(with_reducible first|refine z1 ?_|refine z2 ?_|refine z9 ?_)|((intro _;skip)<;>(conv=>whnf))))
          refine st_round (G', w', i + 1) ⟨hle.trans hle3, hlt⟩ (by show l.length - (i + 1) < l.length - i; omega) ?_ (MemFits.pre 4 ?_)
          · dsimp only
            rw [hO2]
            repeat (first | exact FitsSl.nil | refine FitsSl.any ?_ | refine FitsSl.cons (Fit1.int (by first | rfl | omega)) ?_ | refine FitsSl.cons (Fit1.bool rfl) ?_ | refine FitsSl.cons (Fit1.str rfl) ?_ | refine FitsSl.cons (Fit1.same (by intro h; cases h) (by with_reducible rfl)) ?_ | refine FitsSl.cons Fit1.nil_sl ?_ | refine FitsSl.cons (Fit1.hs rfl) ?_ | refine FitsSl.cons (Fit1.hp rfl rfl) ?_ | refine FitsSl.cons (Fit1.sl rfl) ?_ | refine FitsSl.cons (Fit1.ptr rfl rfl) ?_ | refine FitsSl.cons Fit1.raw ?_)
          · simp only [autoM, List.take, hO2]
            try rfl
        · have hkl : i = l.length := by omega
          subst hkl
          rw [List.take_length]
          clear ih
          (repeat' (first|(with_reducible first|(refine hK _ _ ?_;clear hK K)|(refine hB ?_;clear hA hB A B)|(refine hK _ ?_;clear hK K))|((with_reducible refine gO ?_);(first|((with_reducible refine z25 ?_);intro K hK;(conv=>whnf))|(with_reducible refine z0 ?_)))|((((with_reducible refine gI ?_);(((with_reducible refine NIf.decN ?s ?_);case s=>omega))))<;>(conv=>whnf))|((with_reducible refine gX ?_);(first|(with_reducible first|refine z3 ?_|refine z4 ?_|refine z7 ?_|refine z8 ?_)|((with_reducible refine z29 ?_);intro A B hA hB;(conv=>whnf))))|(with_reducible first|refine z1 ?_|refine z2 ?_|refine z10 ?_|refine z11 ?_|refine z19 ?_)|((with_reducible refine gR ?_);((refine z31 rfl ?_);intro K hK;(conv=>whnf)))))
          all_goals exact ⟨G, w, hle, rfl, MemFits.pre 2 rfl⟩
      · rw [if_neg (fun h => ha h.2)] at hfin
        have hLo := fun (F1 : Heap) (v1 : Value) (h : Srt.Row F1 v1 L) => h.ok
        have hfin := hfin (out ++ L) (by simp)
        rw [hfin]
        have hol1 : (out ++ L).length = out.length + L.length := by
          simp only [List.length_append, List.length_cons, List.length_nil]
        have hav1 : Srt.av (out ++ L) = Srt.av out ++ Srt.av L := by simp only [Srt.av_append]
        clear hfin hn
        generalize ho1 : out ++ L = o1 at *
        generalize Srt.av out = ao at *
        (repeat' (first|(with_reducible first|(refine hK _ _ ?_;clear hK K)|(refine hB ?_;clear hA hB A B)|(refine hK _ ?_;clear hK K))|((with_reducible refine gO ?_);(first|((with_reducible first|refine z25 ?_|refine z26 ?_);intro K hK;(conv=>whnf))|(with_reducible refine z0 ?_)))|((first|((with_reducible refine gI ?_);(first|((with_reducible refine NIf.decY ?s ?_);case s=>with_reducible rfl)|((with_reducible refine NIf.decN ?s ?_);case s=>assumption)))|((with_reducible refine gN ?_);(with_reducible refine NN.a5 ?_))|((with_reducible refine gH ?_);((((with_reducible refine NH.mk ?side ?_); case side => (and_intros <;> first | with_reducible rfl | omega | ((first | exact hrow.ok | exact Srt.ones _ | rfl)))))))|((with_reducible refine gC ?_);((with_reducible refine NCall.isF 28 ?_);refine NCall.subw [0] _ _ (cv) rfl (by decide) rfl ?_; rintro _ _ ⟨F1, v1, hle1, hrow, rfl, rfl⟩; refine ⟨Nat.le_of_ble_eq_true rfl, _, rfl, ?_⟩)))<;>(conv=>whnf))|(refine NRd.of (Srt.av L) (Srt.reads hrow).1 (Srt.reads hrow).2 ?_; conv=>whnf)|((with_reducible refine gX ?_);(first|(with_reducible first|refine z3 ?_|refine z4 ?_|refine z5 ?_|refine z6 ?_)|((with_reducible refine z29 ?_);intro A B hA hB;(conv=>whnf))))|(with_reducible first|refine z1 ?_|refine z2 ?_)|((with_reducible refine gF ?_);((refine z33 rfl ?_);intro K hK;(conv=>whnf)))|((intro _;skip)<;>(conv=>whnf))))
        rename_i w2
        have e0 : o1 ++ Po.valsL f (l.take 0) = o1 := by simp [Po.valsL]
        refine st_auto (α := Heap × Value × Nat) (fun (G, w, i) => F.le G ∧ i ≤ l.length) (fun (G, w, i) => [.set (.sl 1 w (o1 ++ Po.valsL f (l.take i)).length), .keep, .keep, .keep, .keep, .keep, .keep, .keep, .drop, .keep, .keep, .keep, .keep, .keep, .keep, .keep, .keep, .keep, .keep, .keep, .keep, .keep, .keep, .keep, .keep, .keep, .keep, .keep, .keep, .keep, .keep, .keep, .set (.int .i64 i), .drop, .drop, .drop, .drop, .drop, .drop, .drop, .drop, .keep]) (fun (G, w, i) => [.set (hpB G), .set ⟨addrOf w, Srt.av (o1 ++ Po.valsL f (l.take i)), .row w 3 1 (o1 ++ Po.valsL f (l.take i)).length⟩]) (fun (G, w, i) => l.length - i) (F1, w2, 0) ⟨hle1, Nat.zero_le _⟩ ?_ ?_ ?_
        · dsimp only
          rw [e0, hol1]
          repeat (first | exact FitsSl.nil | refine FitsSl.any ?_ | refine FitsSl.cons (Fit1.int (by first | rfl | omega)) ?_ | refine FitsSl.cons (Fit1.bool rfl) ?_ | refine FitsSl.cons (Fit1.str rfl) ?_ | refine FitsSl.cons (Fit1.same (by intro h; cases h) (by with_reducible rfl)) ?_ | refine FitsSl.cons Fit1.nil_sl ?_ | refine FitsSl.cons (Fit1.hs rfl) ?_ | refine FitsSl.cons (Fit1.hp rfl rfl) ?_ | refine FitsSl.cons (Fit1.sl rfl) ?_ | refine FitsSl.cons (Fit1.ptr rfl rfl) ?_ | refine FitsSl.cons Fit1.raw ?_)
        · dsimp only
          rw [e0]
          exact MemFits.congr (by simp only [autoM, hav1, hol1, List.append_nil]; try rfl)
        (intro ⟨G, w, i⟩ ⟨hle, hi⟩; intro K hK; (conv=>whnf); refine hK _ _ ?_; clear hK K)
        dsimp only
        by_cases hlt : i < l.length
        · have hx : l[i]? = some l[i] := List.getElem?_eq_getElem hlt
          obtain ⟨pA, pcap, A, cap, hA, c0, c1, c2, c3, c4, c5, c6, c7⟩ := (Po.Row.mono hle hu).get hx
          have hAo := hA.l.ok
          have hAp := hA.p.ok
          have hmem := List.mem_of_getElem? hx
          have hst := Po.totL_take hlt
          have hle2 := Po.totL_le (l := l) (k := i + 1)
          have hvi := hvl i
          have hO : o1 ++ Po.valsL f (l.take (i + 1)) = o1 ++ Po.valsL f (l.take i) ++ Po.vals f l[i] := by rw [Po.valsL_take _ hlt, List.append_assoc]
          have hlo : (o1 ++ Po.valsL f (l.take i)).length = o1.length + (Po.valsL f (l.take i)).length := List.length_append
          have c := ih G _ hmem _ _ hA (o1 ++ Po.valsL f (l.take i)) w (by omega)
          rw [← hO] at c
          clear ih hvl hO
          generalize l[i] = y at *
          obtain ⟨yk, ⟨ypk, ypf, ypv, ypl⟩, yf, yv, yl⟩ := y
          simp only [Po.cs, Po.T.k, Po.T.p, Po.T.f, Po.T.v, Po.T.l, Pd.T.k, Pd.T.f, Pd.T.v, Pd.T.l] at c c0 c1 c2 c3 c4 c5 c6 c7 hAo hAp
          generalize o1 ++ Po.valsL f (l.take i) = O at *
          generalize hO2 : o1 ++ Po.valsL f (l.take (i + 1)) = O2 at *
          (repeat' (first|(with_reducible first|(refine hK _ _ ?_;clear hK K)|(refine hA ?_;clear hA hB A B))|((with_reducible refine gO ?_);(first|((with_reducible refine z25 ?_);intro K hK;(conv=>whnf))|(with_reducible refine z0 ?_)))|((first|((with_reducible refine gV ?_);(((with_reducible refine NV.i64 ?s ?_);case s=>omega)))|((with_reducible refine gI ?_);(((with_reducible refine NIf.decY ?s ?_);case s=>omega)))|((with_reducible refine gN ?_);(with_reducible first|refine NN.cast ?_|refine NN.keep ?_))|((with_reducible refine gH ?_);((with_reducible refine NH.mk ?s ?_);case s=>(and_intros<;>first|with_reducible rfl|((with_reducible refine gOnes ?_);rfl)|((with_reducible refine gLen ?_);rfl)|omega)))|((with_reducible refine gC ?_);((with_reducible refine NCall.isF 69 ?_);refine NCall.subw [0, 1] _ _ (c) rfl (by decide) rfl ?_; rintro _ _ ⟨G', w', hle3, rfl, rfl⟩; refine ⟨Nat.le_of_ble_eq_true rfl, _, rfl, ?_⟩))|(with_reducible refine NLd.of (by with_reducible assumption) ?_))<;>(conv=>whnf))|((with_reducible refine gX ?_);(first|(with_reducible first|refine z3 ?_|refine z4 ?_|refine z5 ?_|refine z6 ?_)|((with_reducible refine z29 ?_);intro A B hA hB;(conv=>whnf))))|(with_reducible first|refine z1 ?_|refine z2 ?_|refine z9 ?_)|((intro _;skip)<;>(conv=>whnf))))
          refine st_round (G', w', i + 1) ⟨hle.trans hle3, hlt⟩ (by show l.length - (i + 1) < l.length - i; omega) ?_ (MemFits.pre 3 ?_)
          · dsimp only
            rw [hO2]
            repeat (first | exact FitsSl.nil | refine FitsSl.any ?_ | refine FitsSl.cons (Fit1.int (by first | rfl | omega)) ?_ | refine FitsSl.cons (Fit1.bool rfl) ?_ | refine FitsSl.cons (Fit1.str rfl) ?_ | refine FitsSl.cons (Fit1.same (by intro h; cases h) (by with_reducible rfl)) ?_ | refine FitsSl.cons Fit1.nil_sl ?_ | refine FitsSl.cons (Fit1.hs rfl) ?_ | refine FitsSl.cons (Fit1.hp rfl rfl) ?_ | refine FitsSl.cons (Fit1.sl rfl) ?_ | refine FitsSl.cons (Fit1.ptr rfl rfl) ?_ | refine FitsSl.cons Fit1.raw ?_)
          · simp only [autoM, List.take, hO2]
            try rfl
        · have hkl : i = l.length := by omega
          subst hkl
          rw [List.take_length]
          clear ih
          (repeat' (first|(with_reducible first|(refine hK _ _ ?_;clear hK K)|(refine hB ?_;clear hA hB A B)|(refine hK _ ?_;clear hK K))|((with_reducible refine gO ?_);(first|((with_reducible refine z25 ?_);intro K hK;(conv=>whnf))|(with_reducible refine z0 ?_)))|((((with_reducible refine gI ?_);(((with_reducible refine NIf.decN ?s ?_);case s=>omega))))<;>(conv=>whnf))|((with_reducible refine gX ?_);(first|(with_reducible first|refine z3 ?_|refine z4 ?_|refine z7 ?_|refine z8 ?_)|((with_reducible refine z29 ?_);intro A B hA hB;(conv=>whnf))))|(with_reducible first|refine z1 ?_|refine z2 ?_|refine z10 ?_|refine z11 ?_|refine z19 ?_)|((with_reducible refine gR ?_);((refine z31 rfl ?_);intro K hK;(conv=>whnf)))))
          all_goals exact ⟨G, w, hle, rfl, MemFits.pre 2 rfl⟩
    · rw [if_neg (fun h => hk h.1)] at hfin
      have hLo := fun (F1 : Heap) (v1 : Value) (h : Srt.Row F1 v1 L) => h.ok
      have hfin := hfin (out ++ L) (by simp)
      rw [hfin]
      have hol1 : (out ++ L).length = out.length + L.length := by
        simp only [List.length_append, List.length_cons, List.length_nil]
      have hav1 : Srt.av (out ++ L) = Srt.av out ++ Srt.av L := by simp only [Srt.av_append]
      clear hfin hn
      generalize ho1 : out ++ L = o1 at *
      generalize Srt.av out = ao at *
      (repeat' (first|(with_reducible first|(refine hK _ _ ?_;clear hK K)|(refine hB ?_;clear hA hB A B)|(refine hK _ ?_;clear hK K))|((with_reducible refine gO ?_);(first|((with_reducible first|refine z25 ?_|refine z26 ?_);intro K hK;(conv=>whnf))|(with_reducible refine z0 ?_)))|((first|((with_reducible refine gI ?_);(first|((with_reducible refine NIf.decN ?s ?_);case s=>assumption)|((with_reducible refine NIf.no ?s ?_);case s=>rfl)))|((with_reducible refine gN ?_);(with_reducible refine NN.a5 ?_))|((with_reducible refine gH ?_);((((with_reducible refine NH.mk ?side ?_); case side => (and_intros <;> first | with_reducible rfl | omega | ((first | exact hrow.ok | exact Srt.ones _ | rfl)))))))|((with_reducible refine gC ?_);((with_reducible refine NCall.isF 28 ?_);refine NCall.subw [0] _ _ (cv) rfl (by decide) rfl ?_; rintro _ _ ⟨F1, v1, hle1, hrow, rfl, rfl⟩; refine ⟨Nat.le_of_ble_eq_true rfl, _, rfl, ?_⟩)))<;>(conv=>whnf))|(refine NRd.of (Srt.av L) (Srt.reads hrow).1 (Srt.reads hrow).2 ?_; conv=>whnf)|((with_reducible refine gX ?_);(first|(with_reducible first|refine z3 ?_|refine z4 ?_|refine z5 ?_|refine z6 ?_)|((with_reducible refine z29 ?_);intro A B hA hB;(conv=>whnf))))|(with_reducible first|refine z1 ?_|refine z2 ?_)|((with_reducible refine gF ?_);((refine z33 rfl ?_);intro K hK;(conv=>whnf)))|((intro _;skip)<;>(conv=>whnf))))
      rename_i w2
      have e0 : o1 ++ Po.valsL f (l.take 0) = o1 := by simp [Po.valsL]
      refine st_auto (α := Heap × Value × Nat) (fun (G, w, i) => F.le G ∧ i ≤ l.length) (fun (G, w, i) => [.set (.sl 1 w (o1 ++ Po.valsL f (l.take i)).length), .keep, .keep, .keep, .keep, .keep, .keep, .keep, .drop, .keep, .keep, .keep, .keep, .keep, .keep, .keep, .keep, .keep, .keep, .keep, .keep, .keep, .keep, .keep, .keep, .keep, .keep, .keep, .keep, .keep, .keep, .keep, .set (.int .i64 i), .drop, .drop, .drop, .drop, .drop, .drop, .drop, .drop, .keep]) (fun (G, w, i) => [.set (hpB G), .set ⟨addrOf w, Srt.av (o1 ++ Po.valsL f (l.take i)), .row w 3 1 (o1 ++ Po.valsL f (l.take i)).length⟩]) (fun (G, w, i) => l.length - i) (F1, w2, 0) ⟨hle1, Nat.zero_le _⟩ ?_ ?_ ?_
      · dsimp only
        rw [e0, hol1]
        repeat (first | exact FitsSl.nil | refine FitsSl.any ?_ | refine FitsSl.cons (Fit1.int (by first | rfl | omega)) ?_ | refine FitsSl.cons (Fit1.bool rfl) ?_ | refine FitsSl.cons (Fit1.str rfl) ?_ | refine FitsSl.cons (Fit1.same (by intro h; cases h) (by with_reducible rfl)) ?_ | refine FitsSl.cons Fit1.nil_sl ?_ | refine FitsSl.cons (Fit1.hs rfl) ?_ | refine FitsSl.cons (Fit1.hp rfl rfl) ?_ | refine FitsSl.cons (Fit1.sl rfl) ?_ | refine FitsSl.cons (Fit1.ptr rfl rfl) ?_ | refine FitsSl.cons Fit1.raw ?_)
      · dsimp only
        rw [e0]
        exact MemFits.congr (by simp only [autoM, hav1, hol1, List.append_nil]; try rfl)
      (intro ⟨G, w, i⟩ ⟨hle, hi⟩; intro K hK; (conv=>whnf); refine hK _ _ ?_; clear hK K)
      dsimp only
      by_cases hlt : i < l.length
      · have hx : l[i]? = some l[i] := List.getElem?_eq_getElem hlt
        obtain ⟨pA, pcap, A, cap, hA, c0, c1, c2, c3, c4, c5, c6, c7⟩ := (Po.Row.mono hle hu).get hx
        have hAo := hA.l.ok
        have hAp := hA.p.ok
        have hmem := List.mem_of_getElem? hx
        have hst := Po.totL_take hlt
        have hle2 := Po.totL_le (l := l) (k := i + 1)
        have hvi := hvl i
        have hO : o1 ++ Po.valsL f (l.take (i + 1)) = o1 ++ Po.valsL f (l.take i) ++ Po.vals f l[i] := by rw [Po.valsL_take _ hlt, List.append_assoc]
        have hlo : (o1 ++ Po.valsL f (l.take i)).length = o1.length + (Po.valsL f (l.take i)).length := List.length_append
        have c := ih G _ hmem _ _ hA (o1 ++ Po.valsL f (l.take i)) w (by omega)
        rw [← hO] at c
        clear ih hvl hO
        generalize l[i] = y at *
        obtain ⟨yk, ⟨ypk, ypf, ypv, ypl⟩, yf, yv, yl⟩ := y
        simp only [Po.cs, Po.T.k, Po.T.p, Po.T.f, Po.T.v, Po.T.l, Pd.T.k, Pd.T.f, Pd.T.v, Pd.T.l] at c c0 c1 c2 c3 c4 c5 c6 c7 hAo hAp
        generalize o1 ++ Po.valsL f (l.take i) = O at *
        generalize hO2 : o1 ++ Po.valsL f (l.take (i + 1)) = O2 at *
        (repeat' (first|(with_reducible first|(refine hK _ _ ?_;clear hK K)|(refine hA ?_;clear hA hB A B))|((with_reducible refine gO ?_);(first|((with_reducible refine z25 ?_);intro K hK;(conv=>whnf))|(with_reducible refine z0 ?_)))|((first|((with_reducible refine gV ?_);(((with_reducible refine NV.i64 ?s ?_);case s=>omega)))|((with_reducible refine gI ?_);(((with_reducible refine NIf.decY ?s ?_);case s=>omega)))|((with_reducible refine gN ?_);(with_reducible first|refine NN.cast ?_|refine NN.keep ?_))|((with_reducible refine gH ?_);((with_reducible refine NH.mk ?s ?_);case s=>(and_intros<;>first|with_reducible rfl|((with_reducible refine gOnes ?_);rfl)|((with_reducible refine gLen ?_);rfl)|omega)))|((with_reducible refine gC ?_);((with_reducible refine NCall.isF 69 ?_);refine NCall.subw [0, 1] _ _ (c) rfl (by decide) rfl ?_; rintro _ _ ⟨G', w', hle3, rfl, rfl⟩; refine ⟨Nat.le_of_ble_eq_true rfl, _, rfl, ?_⟩))|(with_reducible refine NLd.of (by with_reducible assumption) ?_))<;>(conv=>whnf))|((with_reducible refine gX ?_);(first|(with_reducible first|refine z3 ?_|refine z4 ?_|refine z5 ?_|refine z6 ?_)|((with_reducible refine z29 ?_);intro A B hA hB;(conv=>whnf))))|(with_reducible first|refine z1 ?_|refine z2 ?_|refine z9 ?_)|((intro _;skip)<;>(conv=>whnf))))
        refine st_round (G', w', i + 1) ⟨hle.trans hle3, hlt⟩ (by show l.length - (i + 1) < l.length - i; omega) ?_ (MemFits.pre 3 ?_)
        · dsimp only
          rw [hO2]
          repeat (first | exact FitsSl.nil | refine FitsSl.any ?_ | refine FitsSl.cons (Fit1.int (by first | rfl | omega)) ?_ | refine FitsSl.cons (Fit1.bool rfl) ?_ | refine FitsSl.cons (Fit1.str rfl) ?_ | refine FitsSl.cons (Fit1.same (by intro h; cases h) (by with_reducible rfl)) ?_ | refine FitsSl.cons Fit1.nil_sl ?_ | refine FitsSl.cons (Fit1.hs rfl) ?_ | refine FitsSl.cons (Fit1.hp rfl rfl) ?_ | refine FitsSl.cons (Fit1.sl rfl) ?_ | refine FitsSl.cons (Fit1.ptr rfl rfl) ?_ | refine FitsSl.cons Fit1.raw ?_)
        · simp only [autoM, List.take, hO2]
          try rfl
      · have hkl : i = l.length := by omega
        subst hkl
        rw [List.take_length]
        clear ih
        (repeat' (first|(with_reducible first|(refine hK _ _ ?_;clear hK K)|(refine hB ?_;clear hA hB A B)|(refine hK _ ?_;clear hK K))|((with_reducible refine gO ?_);(first|((with_reducible refine z25 ?_);intro K hK;(conv=>whnf))|(with_reducible refine z0 ?_)))|((((with_reducible refine gI ?_);(((with_reducible refine NIf.decN ?s ?_);case s=>omega))))<;>(conv=>whnf))|((with_reducible refine gX ?_);(first|(with_reducible first|refine z3 ?_|refine z4 ?_|refine z7 ?_|refine z8 ?_)|((with_reducible refine z29 ?_);intro A B hA hB;(conv=>whnf))))|(with_reducible first|refine z1 ?_|refine z2 ?_|refine z10 ?_|refine z11 ?_|refine z19 ?_)|((with_reducible refine gR ?_);((refine z31 rfl ?_);intro K hK;(conv=>whnf)))))
        all_goals exact ⟨G, w, hle, rfl, MemFits.pre 2 rfl⟩
theorem Values27_c (F : Heap) (x : Po.T) (pu u : Value) (f : Int) (hf : -9223372036854775808 ≤ f ∧ f ≤ 9223372036854775807) (hs : Po.tot x ≤ 2932031007402) (hx : Po.At F x pu u) :
    NCall Tryz.prog 32 [.agg (Po.cs x pu u), .int .i64 f] [hpB F] fun r m => Srt.Lays F (Po.values f x) r m := by
  have hln := Po.vals_len f x
  have c1 := values27_c f hf _ F x pu u [] (.slice none 0 0) (Nat.le_refl _) (by simpa using hs) hx
  have c0 : NCall Tryz.prog 69 [.raw (.slice none 0 0), .agg (Po.cs x pu u), .int .i64 f] [hpB F] _ := NCall.rowPre c1 rfl
  rw [List.nil_append] at c0
  clear c1
  have hv := Po.values_comp f x
  have hsl := Srt.sort_len (Po.vals f x)
  refine Go.Sx.NCall.know (K := fun r m => ∃ F' v, F.le F' ∧ r = .raw (Srt.cutTo v (Po.values f x).length) ∧ MemFits m [hpB F', ⟨addrOf v, Srt.av (Srt.comped (Srt.sort (Po.vals f x))), .row v 3 1 (Po.vals f x).length⟩]) ?_ fun r m' ⟨F', v, hF, hr, hm⟩ ⟨w, hw⟩ => ?_
  · rw [← hv]
    have c2 := fun v => sort_c v 3 (Po.vals f x) (by omega)
    have c3 := fun v => compact_c v 3 (Srt.sort (Po.vals f x)) (by omega)
    rw [hsl] at c3
    generalize Srt.comped (Srt.sort (Po.vals f x)) = D2 at *
    generalize (Srt.comp (Srt.sort (Po.vals f x))).length = n2 at *
    generalize Srt.av (Srt.sort (Po.vals f x)) = D1 at *
    generalize Srt.av (Po.vals f x) = D0 at *
    generalize (Po.vals f x).length = n0 at *
    have hok := hx.l.ok
    have hpok := hx.p.ok
    clear hv hsl
    obtain ⟨k, ⟨pk, pf, pv, pl⟩, a, v, l⟩ := x
    simp only [po_cs, Po.T.l, Po.T.p, Pd.T.k, Pd.T.f, Pd.T.v, Pd.T.l] at *
    refine ncall_of Tryz.func32 rfl (by decide) ?_
    (repeat' (first|(with_reducible first|(refine hK _ _ ?_;clear hK K)|(refine hK _ ?_;clear hK K))|((with_reducible refine gO ?_);(first|((with_reducible refine z25 ?_);intro K hK;(conv=>whnf))|(with_reducible refine z0 ?_)))|((first|((with_reducible refine gH ?_);((with_reducible refine NH.mk ?s ?_);case s=>(and_intros<;>with_reducible rfl)))|((with_reducible refine gC ?_);(first|((with_reducible refine NCall.isF 69 ?_);refine NCall.subw [0] _ _ (c0) rfl (by decide) rfl ?_; rintro _ _ ⟨F1, w', hle, rfl, rfl⟩; refine ⟨Nat.le_of_ble_eq_true rfl, .sl 2 w' n0, rfl, ?_⟩)|((with_reducible refine NCall.isF 59 ?_);refine NCall.subE [2] (c2 _) rfl (by decide) rfl rfl ?_)|((with_reducible refine NCall.isF 60 ?_);refine NCall.subE [2] (c3 _) rfl (by decide) rfl rfl ?_))))<;>(conv=>whnf))|((with_reducible refine gX ?_);((with_reducible first|refine z3 ?_|refine z4 ?_|refine z8 ?_)))|(with_reducible first|refine z1 ?_|refine z2 ?_)|((with_reducible refine gR ?_);((refine z31 rfl ?_);intro K hK;(conv=>whnf)))|((with_reducible refine gF ?_);((refine z33 rfl ?_);intro K hK;(conv=>whnf)))|((intro _;skip)<;>(conv=>whnf))))
    all_goals exact ⟨F1, _, hle, rfl, MemFits.pick [0, 2] (by decide) rfl⟩
  · have hok := ((hm w hw).1.row (List.mem_cons_of_mem _ (List.mem_cons_self ..))).1
    rw [← hsl, ← Srt.comped_len] at hok
    have hrow := rowF_new (F := F') (sz := 1) (enc := Srt.V) hok (Srt.av_flat _) (fun x _ => rfl)
    obtain ⟨h1, h2⟩ := Srt.row_cut hrow
    rw [hv] at h1 h2
    exact ⟨_, _, by rw [hr]; exact h2.symm, hm.trans (MemFits.freeze (m := [])), _, _, hF.trans addF.old, h1, rfl, rfl⟩
end Go.Proofs.YtpkjnmddembkjaaGreatDoor
