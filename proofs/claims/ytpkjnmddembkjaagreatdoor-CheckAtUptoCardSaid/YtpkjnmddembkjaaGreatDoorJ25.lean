/-
  Policies: which may be, by the document. (Printed by gen_po6.py.); Networks: links, hosts; is a port named?.
-/
import Derived.Test.YtpkjnmddembkjaaGreatDoorJ22
import Derived.Test.YtpkjnmddembkjaaGreatDoorJ23
import Derived.Test.YtpkjnmddembkjaaGreatDoorJ24
import Derived.Test.YtpkjnmddembkjaaGreatDoorJ5
import Derived.Test.YtpkjnmddembkjaaGreatDoorProg
namespace Go.Proofs.YtpkjnmddembkjaaGreatDoor
open Go.Sx
set_option maxRecDepth 20000
set_option linter.unusedSimpArgs false
set_option linter.unusedVariables false
set_option maxHeartbeats 4000000
set_option linter.unusedVariables false
section
variable (F : Heap)
theorem fits27_z (k : Int) (hk : ¬ (k = 1 ∨ k = 2 ∨ k = 3 ∨ k = 4 ∨ k = 5)) (pk pf pv : Int) (pl : List Pd.T) (f v : Int) (l : List Po.T) (pu u : Value) (tp : Int) (nb rb : Bool) (htp : Pd.top f = tp) (hnb : Pd.same (.mk pk pf pv pl) Po.noneP = nb) (hrb : Pd.right (.mk pk pf pv pl) = rb) (hu : Po.Row F u l) (hok : SlOk u l.length) (hpok : SlOk pu pl.length) (hln : l.length ≤ 4611686018427387904)
    (ih : ∀ x ∈ l, ∀ pA A, Po.At F x pA A → NCall Tryz.prog 45 [.agg (Po.cs x pA A)] [hpB F] fun r m => r = .bool (Po.fits x) ∧ m = [hpB F])
    (ct : NCall Tryz.prog 81 [.int .i64 f] [] fun r _ => r = .int .i64 tp)
    (cr : NCall Tryz.prog 20 [.agg [.int .i64 pk, .int .i64 pf, .int .i64 pv, .hs pu pl.length]] [hpB F] fun r m => r = .bool rb ∧ m = [hpB F])
    (cn : NCall Tryz.prog 23 [.agg [.int .i64 pk, .int .i64 pf, .int .i64 pv, .hs pu pl.length], .agg [.int .i64 0, .int .i64 0, .int .i64 0, .hs (.slice none 0 0) 0]] [hpB F] fun r m => r = .bool nb ∧ m = [hpB F]) :
    NCall Tryz.prog 45 [.agg [.int .i64 k, .int .i64 pk, .int .i64 pf, .int .i64 pv, .hs pu pl.length, .int .i64 f, .int .i64 v, .hs u l.length]] [hpB F] fun r m => r = .bool (Po.shape k (.mk pk pf pv pl) f v l.length && Po.fitsL l) ∧ MemFits m [hpB F] := by
  have hfl := Po.fitsL_iff l
  have hsh : Po.shape k (.mk pk pf pv pl) f v l.length = decide ((k : Int) = 1 ∧ rb = true ∧ (f = 0 ∧ v = 0) ∧ l.length = 0 ∨ (k : Int) = 2 ∧ nb = true ∧ (0 ≤ f ∧ f ≤ 4) ∧ (0 ≤ v ∧ v ≤ tp) ∧ l.length = 0 ∨ ((k : Int) = 3 ∨ (k : Int) = 4) ∧ nb = true ∧ (f = 0 ∧ v = 0) ∧ 2 ≤ l.length ∧ l.length ≤ 8 ∨ (k : Int) = 5 ∧ rb = true ∧ (f = 0 ∧ v = 0) ∧ l.length = 2) := by rw [← htp, ← hnb, ← hrb]; rfl
  clear htp hnb hrb
  refine ncall_of Tryz.func45 rfl (by decide) ?_
  rw [show Po.shape k (.mk pk pf pv pl) f v l.length = false by rw [hsh]; exact decide_eq_false (by omega)]
  clear hsh hfl ih
  rw [Bool.false_and]
  by_cases hk0 : k < 1
  · (repeat' (first|(with_reducible first|(refine hK _ _ ?_;clear hK K)|(refine hA ?_;clear hA hB A B)|(refine hK _ ?_;clear hK K))|((with_reducible refine gO ?_);(first|((with_reducible first|refine z25 ?_|refine z26 ?_);intro K hK;(conv=>whnf))|(with_reducible refine z0 ?_)))|((first|((with_reducible refine gI ?_);(first|((with_reducible refine NIf.decY ?s ?_);case s=>assumption)|((with_reducible refine NIf.yes ?s ?_);case s=>rfl)))|((with_reducible refine gN ?_);(with_reducible refine NN.a5 ?_))|((with_reducible refine gH ?_);((with_reducible refine NH.mk ?s ?_);case s=>(and_intros<;>first|with_reducible rfl|omega))))<;>(conv=>whnf))|((with_reducible refine gX ?_);(first|(with_reducible first|refine z3 ?_|refine z4 ?_|refine z8 ?_)|((with_reducible refine z29 ?_);intro A B hA hB;(conv=>whnf))))|(with_reducible first|refine z1 ?_|refine z2 ?_|refine z12 ?_)|((with_reducible refine gR ?_);((refine z31 rfl ?_);intro K hK;(conv=>whnf)))|((with_reducible refine gF ?_);((refine z33 rfl ?_);intro K hK;(conv=>whnf)))|((intro _;skip)<;>(conv=>whnf))))
    all_goals first
      | exact ⟨rfl, MemFits.pre 1 rfl⟩
      | (exfalso; omega)
  · (repeat' (first|(with_reducible first|(refine hK _ _ ?_;clear hK K)|(refine hA ?_;clear hA hB A B)|(refine hK _ ?_;clear hK K))|((with_reducible refine gO ?_);(first|((with_reducible first|refine z25 ?_|refine z26 ?_);intro K hK;(conv=>whnf))|(with_reducible refine z0 ?_)))|((first|((with_reducible refine gI ?_);(first|((with_reducible refine NIf.decY ?s ?_);case s=>omega)|((with_reducible refine NIf.decN ?s ?_);case s=>assumption)|((with_reducible refine NIf.yes ?s ?_);case s=>rfl)))|((with_reducible refine gN ?_);(with_reducible refine NN.a5 ?_))|((with_reducible refine gH ?_);((with_reducible refine NH.mk ?s ?_);case s=>(and_intros<;>first|with_reducible rfl|omega))))<;>(conv=>whnf))|((with_reducible refine gX ?_);(first|(with_reducible first|refine z3 ?_|refine z4 ?_|refine z8 ?_)|((with_reducible refine z29 ?_);intro A B hA hB;(conv=>whnf))))|(with_reducible first|refine z1 ?_|refine z2 ?_|refine z12 ?_)|((with_reducible refine gR ?_);((refine z31 rfl ?_);intro K hK;(conv=>whnf)))|((with_reducible refine gF ?_);((refine z33 rfl ?_);intro K hK;(conv=>whnf)))|((intro _;skip)<;>(conv=>whnf))))
    all_goals first
      | exact ⟨rfl, MemFits.pre 1 rfl⟩
      | (exfalso; omega)
theorem fits27_c : ∀ (n : Nat) (x : Po.T) (pu u : Value), Po.tot x ≤ n → Po.tot x ≤ 4611686018427387904 → Po.At F x pu u →
    NCall Tryz.prog 45 [.agg (Po.cs x pu u)] [hpB F] fun r m => r = .bool (Po.fits x) ∧ m = [hpB F]
  | 0, x, pu, u, hn, _, _ => absurd (Po.tot_pos x) (by omega)
  | n + 1, ⟨k, ⟨pk, pf, pv, pl⟩, f, v, l⟩, pu, u, hn, hs, hx => by
    refine NCall.fits (K := fun r m => r = .bool (Po.fits (.mk k (.mk pk pf pv pl) f v l)) ∧ MemFits m [hpB F]) ?_ fun r m' h => ⟨r, _, rfl, h.2, h.1, rfl⟩
    have hll := Po.length_le l
    have e2 := Po.tot_mk k (.mk pk pf pv pl) f v l
    have ih : ∀ x ∈ l, ∀ pA A, Po.At F x pA A → NCall Tryz.prog 45 [.agg (Po.cs x pA A)] [hpB F] fun r m => r = .bool (Po.fits x) ∧ m = [hpB F] := fun x hx pA A hA => fits27_c n x pA A (by have := Po.tot_lt (k := k) (q := .mk pk pf pv pl) (f := f) (v := v) hx; omega) (by have := Po.tot_lt (k := k) (q := .mk pk pf pv pl) (f := f) (v := v) hx; omega) hA
    have ct := reftop26_c f
    have cr := refright26_c F (.mk pk pf pv pl) pu (by omega) hx.p
    have cn := refsame26_c F _ (.mk pk pf pv pl) Po.noneP pu (.slice none 0 0) (Nat.le_refl _) (by omega) (by decide +kernel) hx.p RowF.nil
    rw [Po.fits, po_cs]
    by_cases hk : k = 1 ∨ k = 2 ∨ k = 3 ∨ k = 4 ∨ k = 5
    · rcases hk with rfl | rfl | rfl | rfl | rfl
      · exact fits27_1 F pk pf pv pl f v l pu u _ _ _ rfl rfl rfl hx.l hx.l.ok hx.p.ok (by omega) ih ct cr cn
      · exact fits27_2 F pk pf pv pl f v l pu u _ _ _ rfl rfl rfl hx.l hx.l.ok hx.p.ok (by omega) ih ct cr cn
      · exact fits27_3 F pk pf pv pl f v l pu u _ _ _ rfl rfl rfl hx.l hx.l.ok hx.p.ok (by omega) ih ct cr cn
      · exact fits27_4 F pk pf pv pl f v l pu u _ _ _ rfl rfl rfl hx.l hx.l.ok hx.p.ok (by omega) ih ct cr cn
      · exact fits27_5 F pk pf pv pl f v l pu u _ _ _ rfl rfl rfl hx.l hx.l.ok hx.p.ok (by omega) ih ct cr cn
    · exact fits27_z F k hk pk pf pv pl f v l pu u _ _ _ rfl rfl rfl hx.l hx.l.ok hx.p.ok (by omega) ih ct cr cn
theorem refright27_c (x : Po.T) (pu u : Value) (hs : Po.tot x ≤ 4611686018427387904) (hx : Po.At F x pu u) : NCall Tryz.prog 13 [.agg (Po.cs x pu u)] [hpB F] fun r m => r = .bool (Po.right x) ∧ m = [hpB F] := by
  refine NCall.fits (K := fun r m => r = .bool (Po.right x) ∧ MemFits m [hpB F]) ?_ fun r m' h => ⟨r, _, rfl, h.2, h.1, rfl⟩
  have c1 := refsize27_c F _ x pu u (Nat.le_refl _) hs hx
  have c2 := refdeep27_c F _ x pu u (Nat.le_refl _) hs hx
  have c3 := refwide27_c F _ x pu u (Nat.le_refl _) hs hx
  have c4 := fits27_c F _ x pu u (Nat.le_refl _) hs hx
  have hd := Po.deep_tot x
  have hz := Po.size_tot x
  have hwd := Po.wide_le x
  have hok := hx.l.ok
  have hpok := hx.p.ok
  unfold Po.right
  generalize Po.fits x = fb at *
  generalize Po.size x = sz at *
  generalize Po.deep x = dp at *
  generalize Po.wide x = wd at *
  simp only [Po.cs] at *
  clear hx
  refine ncall_of Tryz.func13 rfl (by decide) ?_
  cases fb
  · (repeat' (first|(with_reducible first|(refine hK _ _ ?_;clear hK K)|(refine hK _ ?_;clear hK K))|((with_reducible refine gO ?_);(first|((with_reducible first|refine z25 ?_|refine z26 ?_);intro K hK;(conv=>whnf))|(with_reducible refine z0 ?_)))|((first|((with_reducible refine gI ?_);(((with_reducible refine NIf.no ?s ?_);case s=>rfl)))|((with_reducible refine gH ?_);((with_reducible refine NH.mk ?s ?_);case s=>(and_intros<;>with_reducible rfl)))|((with_reducible refine gC ?_);((with_reducible refine NCall.isF 45 ?_);refine NCall.subE [0] (c4) rfl (by decide) rfl rfl ?_)))<;>(conv=>whnf))|((with_reducible refine gX ?_);((with_reducible first|refine z3 ?_|refine z4 ?_|refine z8 ?_)))|(with_reducible first|refine z1 ?_|refine z2 ?_)|((with_reducible refine gR ?_);((refine z31 rfl ?_);intro K hK;(conv=>whnf)))|((with_reducible refine gF ?_);((refine z33 rfl ?_);intro K hK;(conv=>whnf)))|((intro _;skip)<;>(conv=>whnf))))
    all_goals first
      | (exfalso; omega)
      | exact ⟨by simp, MemFits.pre 1 rfl⟩
  by_cases h1 : dp ≤ 8
  · by_cases h2 : sz ≤ 64
    · by_cases h3 : wd ≤ 64
      · (repeat' (first|(with_reducible first|(refine hK _ _ ?_;clear hK K)|(refine hK _ ?_;clear hK K))|((with_reducible refine gO ?_);(first|((with_reducible first|refine z25 ?_|refine z26 ?_);intro K hK;(conv=>whnf))|(with_reducible refine z0 ?_)))|((first|((with_reducible refine gI ?_);(first|((with_reducible refine NIf.decY ?s ?_);case s=>omega)|((with_reducible refine NIf.yes ?s ?_);case s=>rfl)))|((with_reducible refine gH ?_);((with_reducible refine NH.mk ?s ?_);case s=>(and_intros<;>with_reducible rfl)))|((with_reducible refine gC ?_);(first|((with_reducible refine NCall.isF 45 ?_);refine NCall.subE [0] (c4) rfl (by decide) rfl rfl ?_)|((with_reducible refine NCall.isF 33 ?_);refine NCall.subE [0] (c1) rfl (by decide) rfl rfl ?_)|((with_reducible refine NCall.isF 46 ?_);refine NCall.subE [0] (c2) rfl (by decide) rfl rfl ?_)|((with_reducible refine NCall.isF 47 ?_);refine NCall.subE [0] (c3) rfl (by decide) rfl rfl ?_))))<;>(conv=>whnf))|((with_reducible refine gX ?_);((with_reducible first|refine z3 ?_|refine z4 ?_|refine z8 ?_)))|(with_reducible first|refine z1 ?_|refine z2 ?_)|((with_reducible refine gR ?_);((refine z31 rfl ?_);intro K hK;(conv=>whnf)))|((with_reducible refine gF ?_);((refine z33 rfl ?_);intro K hK;(conv=>whnf)))|((intro _;skip)<;>(conv=>whnf))))
        all_goals first
          | (exfalso; omega)
          | (refine ⟨?_, MemFits.pre 1 rfl⟩; congr 1; simp [h1, h2, h3] <;> omega)
      · (repeat' (first|(with_reducible first|(refine hK _ _ ?_;clear hK K)|(refine hK _ ?_;clear hK K))|((with_reducible refine gO ?_);(first|((with_reducible first|refine z25 ?_|refine z26 ?_);intro K hK;(conv=>whnf))|(with_reducible refine z0 ?_)))|((first|((with_reducible refine gI ?_);(first|((with_reducible refine NIf.decY ?s ?_);case s=>omega)|((with_reducible refine NIf.yes ?s ?_);case s=>rfl)))|((with_reducible refine gH ?_);((with_reducible refine NH.mk ?s ?_);case s=>(and_intros<;>with_reducible rfl)))|((with_reducible refine gC ?_);(first|((with_reducible refine NCall.isF 45 ?_);refine NCall.subE [0] (c4) rfl (by decide) rfl rfl ?_)|((with_reducible refine NCall.isF 33 ?_);refine NCall.subE [0] (c1) rfl (by decide) rfl rfl ?_)|((with_reducible refine NCall.isF 46 ?_);refine NCall.subE [0] (c2) rfl (by decide) rfl rfl ?_)|((with_reducible refine NCall.isF 47 ?_);refine NCall.subE [0] (c3) rfl (by decide) rfl rfl ?_))))<;>(conv=>whnf))|((with_reducible refine gX ?_);((with_reducible first|refine z3 ?_|refine z4 ?_|refine z8 ?_)))|(with_reducible first|refine z1 ?_|refine z2 ?_)|((with_reducible refine gR ?_);((refine z31 rfl ?_);intro K hK;(conv=>whnf)))|((with_reducible refine gF ?_);((refine z33 rfl ?_);intro K hK;(conv=>whnf)))|((intro _;skip)<;>(conv=>whnf))))
        all_goals first
          | (exfalso; omega)
          | (refine ⟨?_, MemFits.pre 1 rfl⟩; congr 1; simp [h3] <;> omega)
    · (repeat' (first|(with_reducible first|(refine hK _ _ ?_;clear hK K)|(refine hK _ ?_;clear hK K))|((with_reducible refine gO ?_);(first|((with_reducible first|refine z25 ?_|refine z26 ?_);intro K hK;(conv=>whnf))|(with_reducible refine z0 ?_)))|((first|((with_reducible refine gI ?_);(first|((with_reducible refine NIf.decY ?s ?_);case s=>omega)|((with_reducible refine NIf.decN ?s ?_);case s=>omega)|((with_reducible refine NIf.yes ?s ?_);case s=>rfl)))|((with_reducible refine gH ?_);((with_reducible refine NH.mk ?s ?_);case s=>(and_intros<;>with_reducible rfl)))|((with_reducible refine gC ?_);(first|((with_reducible refine NCall.isF 45 ?_);refine NCall.subE [0] (c4) rfl (by decide) rfl rfl ?_)|((with_reducible refine NCall.isF 46 ?_);refine NCall.subE [0] (c2) rfl (by decide) rfl rfl ?_)|((with_reducible refine NCall.isF 33 ?_);refine NCall.subE [0] (c1) rfl (by decide) rfl rfl ?_))))<;>(conv=>whnf))|((with_reducible refine gX ?_);((with_reducible first|refine z3 ?_|refine z4 ?_|refine z8 ?_)))|(with_reducible first|refine z1 ?_|refine z2 ?_)|((with_reducible refine gR ?_);((refine z31 rfl ?_);intro K hK;(conv=>whnf)))|((with_reducible refine gF ?_);((refine z33 rfl ?_);intro K hK;(conv=>whnf)))|((intro _;skip)<;>(conv=>whnf))))
      all_goals first
        | (exfalso; omega)
        | (refine ⟨?_, MemFits.pre 1 rfl⟩; congr 1; simp [h2] <;> omega)
  · (repeat' (first|(with_reducible first|(refine hK _ _ ?_;clear hK K)|(refine hK _ ?_;clear hK K))|((with_reducible refine gO ?_);(first|((with_reducible first|refine z25 ?_|refine z26 ?_);intro K hK;(conv=>whnf))|(with_reducible refine z0 ?_)))|((first|((with_reducible refine gI ?_);(first|((with_reducible refine NIf.decN ?s ?_);case s=>omega)|((with_reducible refine NIf.yes ?s ?_);case s=>rfl)|((with_reducible refine NIf.no ?s ?_);case s=>rfl)))|((with_reducible refine gH ?_);((with_reducible refine NH.mk ?s ?_);case s=>(and_intros<;>with_reducible rfl)))|((with_reducible refine gC ?_);(first|((with_reducible refine NCall.isF 45 ?_);refine NCall.subE [0] (c4) rfl (by decide) rfl rfl ?_)|((with_reducible refine NCall.isF 46 ?_);refine NCall.subE [0] (c2) rfl (by decide) rfl rfl ?_))))<;>(conv=>whnf))|((with_reducible refine gX ?_);((with_reducible first|refine z3 ?_|refine z4 ?_|refine z8 ?_)))|(with_reducible first|refine z1 ?_|refine z2 ?_)|((with_reducible refine gR ?_);((refine z31 rfl ?_);intro K hK;(conv=>whnf)))|((with_reducible refine gF ?_);((refine z33 rfl ?_);intro K hK;(conv=>whnf)))|((intro _;skip)<;>(conv=>whnf))))
    all_goals first
      | (exfalso; omega)
      | (refine ⟨?_, MemFits.pre 1 rfl⟩; congr 1; simp [h1] <;> omega)
end
end Go.Proofs.YtpkjnmddembkjaaGreatDoor
namespace Go.Proofs.YtpkjnmddembkjaaGreatDoor
open Go.Sx
set_option maxRecDepth 20000
set_option linter.unusedSimpArgs false
set_option linter.unusedVariables false
set_option maxHeartbeats 4000000
set_option linter.unusedVariables false
namespace Tp
structure Lk where
  a : Int
  pa : Int
  b : Int
  pb : Int
  least : Int
  most : Int
structure Hs where
  at_ : Int
  port : Int
structure T where
  n : Int
  ls : List Lk
  hs : List Hs
def lkV (x : Lk) : List Value := [.int .i64 x.a, .int .i64 x.pa, .int .i64 x.b, .int .i64 x.pb, .int .i64 x.least, .int .i64 x.most]
def hsV (x : Hs) : List Value := [.int .i64 x.at_, .int .i64 x.port]
abbrev LRow (F : Heap) (v : Value) (l : List Lk) : Prop := RowF F 6 (fun x us => us = lkV x) v l
abbrev HRow (F : Heap) (v : Value) (l : List Hs) : Prop := RowF F 2 (fun x us => us = hsV x) v l
structure At (F : Heap) (t : T) (lv hv : Value) : Prop where
  l : LRow F lv t.ls
  h : HRow F hv t.hs
theorem LRow.mono {F G : Heap} (h : F.le G) {v : Value} {l : List Lk} (hv : LRow F v l) : LRow G v l := RowF.mono h (fun _ _ hp => hp) hv
theorem HRow.mono {F G : Heap} (h : F.le G) {v : Value} {l : List Hs} (hv : HRow F v l) : HRow G v l := RowF.mono h (fun _ _ hp => hp) hv
theorem At.mono {F G : Heap} (h : F.le G) {t : T} {lv hv : Value} (ht : At F t lv hv) : At G t lv hv := ⟨LRow.mono h ht.l, HRow.mono h ht.h⟩
def cs (t : T) (lv hv : Value) : List AV := [.int .i64 t.n, .hs lv t.ls.length, .hs hv t.hs.length]
def lkC (x : Lk) : List AV := [.int .i64 x.a, .int .i64 x.pa, .int .i64 x.b, .int .i64 x.pb, .int .i64 x.least, .int .i64 x.most]
def hsC (x : Hs) : List AV := [.int .i64 x.at_, .int .i64 x.port]
theorem LRow.get {F : Heap} {v : Value} {l : List Lk} (h : LRow F v l) {i : Nat} {x : Lk} (hx : l[i]? = some x) :
    F.c ((addrOf v).add (i * 6)) (.int .i64 x.a) ∧ F.c ((addrOf v).add (i * 6 + 1)) (.int .i64 x.pa) ∧ F.c ((addrOf v).add (i * 6 + 2)) (.int .i64 x.b) ∧ F.c ((addrOf v).add (i * 6 + 3)) (.int .i64 x.pb) ∧ F.c ((addrOf v).add (i * 6 + 4)) (.int .i64 x.least) ∧ F.c ((addrOf v).add (i * 6 + 5)) (.int .i64 x.most) := by
  obtain ⟨us, rfl, _, h2⟩ := h.at_ i x hx
  simp only [lkV, CellsF, Nat.add_assoc, Nat.reduceAdd] at h2
  obtain ⟨c0, c1, c2, c3, c4, c5, _⟩ := h2
  exact ⟨c0, c1, c2, c3, c4, c5⟩
theorem HRow.get {F : Heap} {v : Value} {l : List Hs} (h : HRow F v l) {i : Nat} {x : Hs} (hx : l[i]? = some x) :
    F.c ((addrOf v).add (i * 2)) (.int .i64 x.at_) ∧ F.c ((addrOf v).add (i * 2 + 1)) (.int .i64 x.port) := by
  obtain ⟨us, rfl, _, h2⟩ := h.at_ i x hx
  simp only [hsV, CellsF, Nat.add_assoc, Nat.reduceAdd] at h2
  obtain ⟨c0, c1, _⟩ := h2
  exact ⟨c0, c1⟩
def lNamed (p : Int) (x : Lk) : Bool := decide (x.pa = p) || decide (x.pb = p)
def hNamed (p : Int) (x : Hs) : Bool := decide (x.port = p)
def named (t : T) (p : Int) : Bool := t.ls.any (lNamed p) || t.hs.any (hNamed p)
end Tp
section
variable (F : Heap)
theorem any_next {α : Type} {q : α → Bool} {l : List α} {k : Nat} {x : α} (hx : l[k]? = some x) : (l.take (k + 1)).any q = ((l.take k).any q || q x) := by
  rw [List.take_add_one, hx, List.any_append]
  simp
theorem any_at {α : Type} {q : α → Bool} {l : List α} {k : Nat} {x : α} (hx : l[k]? = some x) (h : q x = true) : l.any q = true := List.any_eq_true.2 ⟨x, List.mem_of_getElem? hx, h⟩
/-- Contracts. -/
theorem indexLk_c (q : Tp.Lk → Bool) (v : Value) (l : List Tp.Lk) (hv : Tp.LRow F v l) (hn : l.length ≤ 4611686018427387904) (g : FuncId) (first captured : List AV)
    (hg : ∀ x ∈ l, NCall Tryz.prog g (first ++ [.agg (Tp.lkC x)] ++ captured) [hpB F] fun r m => r = .bool (q x) ∧ m = [hpB F]) :
    NCall Tryz.prog 79 [.hs v l.length, .fn g first captured] [hpB F] fun r m => (∃ j : Int, r = .int .i64 j ∧ (0 ≤ j ↔ l.any q = true)) ∧ m = [hpB F] := by
  have hok := hv.ok
  refine ncall_of Tryz.func79 rfl (by decide) ?_
  (repeat' (first|(with_reducible first|(refine hK _ _ ?_;clear hK K)|(refine hK _ ?_;clear hK K))|((with_reducible refine gO ?_);(first|((with_reducible refine z25 ?_);intro K hK;(conv=>whnf))|(with_reducible refine z0 ?_)))|((((with_reducible refine gH ?_);((with_reducible refine NH.mk ?s ?_);case s=>(and_intros<;>omega))))<;>(conv=>whnf))|((with_reducible refine gX ?_);((with_reducible first|refine z3 ?_|refine z4 ?_|refine z5 ?_)))|(with_reducible first|refine z1 ?_|refine z2 ?_)|((with_reducible refine gF ?_);((refine z33 rfl ?_);intro K hK;(conv=>whnf)))))
  refine st_auto (α := Nat) (fun k => k ≤ l.length ∧ (l.take k).any q = false) (fun k => [.keep, .keep, .keep, .keep, .drop, .drop, .keep, .keep, .set (.int .i64 k), .drop, .drop, .drop, .drop, .drop, .drop, .drop, .drop, .drop, .drop]) (fun _ => []) (fun k => l.length - k) 0 ⟨Nat.zero_le _, rfl⟩ ?_ (MemFits.eq rfl) ?_
  · repeat (first | exact FitsSl.nil | refine FitsSl.any ?_ | refine FitsSl.cons (Fit1.int (by first | rfl | omega)) ?_ | refine FitsSl.cons (Fit1.bool rfl) ?_ | refine FitsSl.cons (Fit1.str rfl) ?_ | refine FitsSl.cons (Fit1.same (by intro h; cases h) (by with_reducible rfl)) ?_ | refine FitsSl.cons Fit1.nil_sl ?_ | refine FitsSl.cons (Fit1.hs rfl) ?_ | refine FitsSl.cons (Fit1.hp rfl rfl) ?_ | refine FitsSl.cons (Fit1.sl rfl) ?_ | refine FitsSl.cons (Fit1.ptr rfl rfl) ?_ | refine FitsSl.cons Fit1.raw ?_)
  (intro k ⟨hk, hgone⟩; intro K hK; (conv=>whnf); refine hK _ _ ?_; clear hK K)
  by_cases hlt : k < l.length
  · have hx : l[k]? = some l[k] := List.getElem?_eq_getElem hlt
    obtain ⟨c0, c1, c2, c3, c4, c5⟩ := hv.get hx
    have c := hg _ (List.getElem_mem hlt)
    have hnx := any_next (q := q) hx
    have hat := any_at (q := q) hx
    generalize l[k] = x at *
    simp only [Tp.lkC] at c
    cases hq : q x with
    | false =>
      rw [hq] at c
      (repeat' (first|(with_reducible first|(refine hK _ _ ?_;clear hK K)|(refine hA ?_;clear hA hB A B)|(refine hB ?_;clear hA hB A B))|((with_reducible refine gO ?_);(first|((with_reducible refine z25 ?_);intro K hK;(conv=>whnf))|(with_reducible refine z0 ?_)))|((first|((with_reducible refine gV ?_);(((with_reducible refine NV.i64 ?s ?_);case s=>omega)))|((with_reducible refine gI ?_);(first|((with_reducible refine NIf.decY ?s ?_);case s=>omega)|((with_reducible refine NIf.no ?s ?_);case s=>rfl)))|((with_reducible refine gN ?_);(with_reducible first|refine NN.cast ?_|refine NN.keep ?_))|((with_reducible refine gH ?_);((with_reducible refine NH.mk ?s ?_);case s=>(and_intros<;>omega)))|((with_reducible refine gC ?_);((with_reducible refine NCall.isF g ?_);refine NCall.subE [0] (c) rfl (by decide) rfl rfl ?_))|(with_reducible refine NLd.of (by with_reducible assumption) ?_))<;>(conv=>whnf))|((with_reducible refine gX ?_);(first|(with_reducible first|refine z3 ?_|refine z4 ?_|refine z5 ?_|refine z6 ?_)|((with_reducible refine z29 ?_);intro A B hA hB;(conv=>whnf))))|(with_reducible first|refine z1 ?_|refine z2 ?_|refine z9 ?_)))
      refine st_round (k + 1) ⟨hlt, by rw [hnx, hgone, hq]; rfl⟩ (by omega) ?_ (MemFits.eq rfl)
      repeat (first | exact FitsSl.nil | refine FitsSl.any ?_ | refine FitsSl.cons (Fit1.int (by first | rfl | omega)) ?_ | refine FitsSl.cons (Fit1.bool rfl) ?_ | refine FitsSl.cons (Fit1.str rfl) ?_ | refine FitsSl.cons (Fit1.same (by intro h; cases h) (by with_reducible rfl)) ?_ | refine FitsSl.cons Fit1.nil_sl ?_ | refine FitsSl.cons (Fit1.hs rfl) ?_ | refine FitsSl.cons (Fit1.hp rfl rfl) ?_ | refine FitsSl.cons (Fit1.sl rfl) ?_ | refine FitsSl.cons (Fit1.ptr rfl rfl) ?_ | refine FitsSl.cons Fit1.raw ?_)
    | true =>
      rw [hq] at c
      (repeat' (first|(with_reducible first|(refine hK _ _ ?_;clear hK K)|(refine hA ?_;clear hA hB A B)|(refine hK _ ?_;clear hK K))|((with_reducible refine gO ?_);(first|((with_reducible refine z25 ?_);intro K hK;(conv=>whnf))|(with_reducible refine z0 ?_)))|((first|((with_reducible refine gI ?_);(first|((with_reducible refine NIf.decY ?s ?_);case s=>omega)|((with_reducible refine NIf.yes ?s ?_);case s=>rfl)))|((with_reducible refine gN ?_);(with_reducible first|refine NN.cast ?_|refine NN.keep ?_))|((with_reducible refine gH ?_);((with_reducible refine NH.mk ?s ?_);case s=>(and_intros<;>omega)))|((with_reducible refine gC ?_);((with_reducible refine NCall.isF g ?_);refine NCall.subE [0] (c) rfl (by decide) rfl rfl ?_))|(with_reducible refine NLd.of (by with_reducible assumption) ?_))<;>(conv=>whnf))|((with_reducible refine gX ?_);(first|(with_reducible first|refine z3 ?_|refine z4 ?_|refine z5 ?_|refine z6 ?_|refine z8 ?_)|((with_reducible refine z29 ?_);intro A B hA hB;(conv=>whnf))))|(with_reducible first|refine z1 ?_|refine z2 ?_|refine z12 ?_|refine z13 ?_|refine z20 ?_)|((with_reducible refine gR ?_);((refine z31 rfl ?_);intro K hK;(conv=>whnf)))))
      exact ⟨⟨_, rfl, ⟨fun _ => hat hq, fun _ => by omega⟩⟩, rfl⟩
  · have hkl : k = l.length := by omega
    subst hkl
    rw [List.take_length] at hgone
    (repeat' (first|(with_reducible first|(refine hK _ _ ?_;clear hK K)|(refine hB ?_;clear hA hB A B)|(refine hK _ ?_;clear hK K))|((with_reducible refine gO ?_);(first|((with_reducible refine z25 ?_);intro K hK;(conv=>whnf))|(with_reducible refine z0 ?_)))|((((with_reducible refine gI ?_);(((with_reducible refine NIf.decN ?s ?_);case s=>omega))))<;>(conv=>whnf))|((with_reducible refine gX ?_);(first|(with_reducible first|refine z3 ?_|refine z4 ?_|refine z7 ?_|refine z8 ?_)|((with_reducible refine z29 ?_);intro A B hA hB;(conv=>whnf))))|(with_reducible first|refine z1 ?_|refine z2 ?_|refine z10 ?_|refine z11 ?_|refine z19 ?_)|((with_reducible refine gR ?_);((refine z31 rfl ?_);intro K hK;(conv=>whnf)))))
    exact ⟨⟨_, rfl, ⟨fun h => by omega, fun h => by rw [hgone] at h; cases h⟩⟩, rfl⟩
theorem containsLk_c (q : Tp.Lk → Bool) (v : Value) (l : List Tp.Lk) (hv : Tp.LRow F v l) (hn : l.length ≤ 4611686018427387904) (g : FuncId) (first captured : List AV)
    (hg : ∀ x ∈ l, NCall Tryz.prog g (first ++ [.agg (Tp.lkC x)] ++ captured) [hpB F] fun r m => r = .bool (q x) ∧ m = [hpB F]) :
    NCall Tryz.prog 41 [.hs v l.length, .fn g first captured] [hpB F] fun r m => r = .bool (l.any q) ∧ m = [hpB F] := by
  have hi := indexLk_c F q v l hv hn g first captured hg
  refine ncall_of Tryz.func41 rfl (by decide) ?_
  (repeat' (first|(with_reducible first|(refine hK _ _ ?_;clear hK K)|(refine hK _ ?_;clear hK K))|((with_reducible refine gO ?_);(first|((with_reducible refine z25 ?_);intro K hK;(conv=>whnf))|(with_reducible refine z0 ?_)))|((((with_reducible refine gC ?_);((with_reducible refine NCall.isF 79 ?_);refine NCall.subw [0] _ _ (hi) rfl (by decide) rfl ?_; rintro _ _ ⟨⟨j, rfl, hj⟩, rfl⟩; refine ⟨Nat.le_of_ble_eq_true rfl, _, rfl, ?_⟩)))<;>(conv=>whnf))|((with_reducible refine gX ?_);((with_reducible first|refine z3 ?_|refine z4 ?_|refine z8 ?_)))|(with_reducible first|refine z1 ?_|refine z2 ?_)|((with_reducible refine gR ?_);((refine z31 rfl ?_);intro K hK;(conv=>whnf)))|((with_reducible refine gF ?_);((refine z33 rfl ?_);intro K hK;(conv=>whnf)))))
  all_goals
    refine ⟨?_, rfl⟩
    congr 1
    by_cases h : 0 ≤ j
    · rw [hj.1 h]; exact decide_eq_true h
    · rw [show l.any q = false by cases e : l.any q with | false => rfl | true => exact (h (hj.2 e)).elim]; exact decide_eq_false h
theorem indexHs_c (q : Tp.Hs → Bool) (v : Value) (l : List Tp.Hs) (hv : Tp.HRow F v l) (hn : l.length ≤ 4611686018427387904) (g : FuncId) (first captured : List AV)
    (hg : ∀ x ∈ l, NCall Tryz.prog g (first ++ [.agg (Tp.hsC x)] ++ captured) [hpB F] fun r m => r = .bool (q x) ∧ m = [hpB F]) :
    NCall Tryz.prog 80 [.hs v l.length, .fn g first captured] [hpB F] fun r m => (∃ j : Int, r = .int .i64 j ∧ (0 ≤ j ↔ l.any q = true)) ∧ m = [hpB F] := by
  have hok := hv.ok
  refine ncall_of Tryz.func80 rfl (by decide) ?_
  (repeat' (first|(with_reducible first|(refine hK _ _ ?_;clear hK K)|(refine hK _ ?_;clear hK K))|((with_reducible refine gO ?_);(first|((with_reducible refine z25 ?_);intro K hK;(conv=>whnf))|(with_reducible refine z0 ?_)))|((((with_reducible refine gH ?_);((with_reducible refine NH.mk ?s ?_);case s=>(and_intros<;>omega))))<;>(conv=>whnf))|((with_reducible refine gX ?_);((with_reducible first|refine z3 ?_|refine z4 ?_|refine z5 ?_)))|(with_reducible first|refine z1 ?_|refine z2 ?_)|((with_reducible refine gF ?_);((refine z33 rfl ?_);intro K hK;(conv=>whnf)))))
  refine st_auto (α := Nat) (fun k => k ≤ l.length ∧ (l.take k).any q = false) (fun k => [.keep, .keep, .keep, .keep, .drop, .drop, .keep, .keep, .set (.int .i64 k), .drop, .drop, .drop, .drop, .drop, .drop, .drop, .drop, .drop, .drop]) (fun _ => []) (fun k => l.length - k) 0 ⟨Nat.zero_le _, rfl⟩ ?_ (MemFits.eq rfl) ?_
  · repeat (first | exact FitsSl.nil | refine FitsSl.any ?_ | refine FitsSl.cons (Fit1.int (by first | rfl | omega)) ?_ | refine FitsSl.cons (Fit1.bool rfl) ?_ | refine FitsSl.cons (Fit1.str rfl) ?_ | refine FitsSl.cons (Fit1.same (by intro h; cases h) (by with_reducible rfl)) ?_ | refine FitsSl.cons Fit1.nil_sl ?_ | refine FitsSl.cons (Fit1.hs rfl) ?_ | refine FitsSl.cons (Fit1.hp rfl rfl) ?_ | refine FitsSl.cons (Fit1.sl rfl) ?_ | refine FitsSl.cons (Fit1.ptr rfl rfl) ?_ | refine FitsSl.cons Fit1.raw ?_)
  (intro k ⟨hk, hgone⟩; intro K hK; (conv=>whnf); refine hK _ _ ?_; clear hK K)
  by_cases hlt : k < l.length
  · have hx : l[k]? = some l[k] := List.getElem?_eq_getElem hlt
    obtain ⟨c0, c1⟩ := hv.get hx
    have c := hg _ (List.getElem_mem hlt)
    have hnx := any_next (q := q) hx
    have hat := any_at (q := q) hx
    generalize l[k] = x at *
    simp only [Tp.hsC] at c
    cases hq : q x with
    | false =>
      rw [hq] at c
      (repeat' (first|(with_reducible first|(refine hK _ _ ?_;clear hK K)|(refine hA ?_;clear hA hB A B)|(refine hB ?_;clear hA hB A B))|((with_reducible refine gO ?_);(first|((with_reducible refine z25 ?_);intro K hK;(conv=>whnf))|(with_reducible refine z0 ?_)))|((first|((with_reducible refine gV ?_);(((with_reducible refine NV.i64 ?s ?_);case s=>omega)))|((with_reducible refine gI ?_);(first|((with_reducible refine NIf.decY ?s ?_);case s=>omega)|((with_reducible refine NIf.no ?s ?_);case s=>rfl)))|((with_reducible refine gN ?_);(with_reducible first|refine NN.cast ?_|refine NN.keep ?_))|((with_reducible refine gH ?_);((with_reducible refine NH.mk ?s ?_);case s=>(and_intros<;>omega)))|((with_reducible refine gC ?_);((with_reducible refine NCall.isF g ?_);refine NCall.subE [0] (c) rfl (by decide) rfl rfl ?_))|(with_reducible refine NLd.of (by with_reducible assumption) ?_))<;>(conv=>whnf))|((with_reducible refine gX ?_);(first|(with_reducible first|refine z3 ?_|refine z4 ?_|refine z5 ?_|refine z6 ?_)|((with_reducible refine z29 ?_);intro A B hA hB;(conv=>whnf))))|(with_reducible first|refine z1 ?_|refine z2 ?_|refine z9 ?_)))
      refine st_round (k + 1) ⟨hlt, by rw [hnx, hgone, hq]; rfl⟩ (by omega) ?_ (MemFits.eq rfl)
      repeat (first | exact FitsSl.nil | refine FitsSl.any ?_ | refine FitsSl.cons (Fit1.int (by first | rfl | omega)) ?_ | refine FitsSl.cons (Fit1.bool rfl) ?_ | refine FitsSl.cons (Fit1.str rfl) ?_ | refine FitsSl.cons (Fit1.same (by intro h; cases h) (by with_reducible rfl)) ?_ | refine FitsSl.cons Fit1.nil_sl ?_ | refine FitsSl.cons (Fit1.hs rfl) ?_ | refine FitsSl.cons (Fit1.hp rfl rfl) ?_ | refine FitsSl.cons (Fit1.sl rfl) ?_ | refine FitsSl.cons (Fit1.ptr rfl rfl) ?_ | refine FitsSl.cons Fit1.raw ?_)
    | true =>
      rw [hq] at c
      (repeat' (first|(with_reducible first|(refine hK _ _ ?_;clear hK K)|(refine hA ?_;clear hA hB A B)|(refine hK _ ?_;clear hK K))|((with_reducible refine gO ?_);(first|((with_reducible refine z25 ?_);intro K hK;(conv=>whnf))|(with_reducible refine z0 ?_)))|((first|((with_reducible refine gI ?_);(first|((with_reducible refine NIf.decY ?s ?_);case s=>omega)|((with_reducible refine NIf.yes ?s ?_);case s=>rfl)))|((with_reducible refine gN ?_);(with_reducible first|refine NN.cast ?_|refine NN.keep ?_))|((with_reducible refine gH ?_);((with_reducible refine NH.mk ?s ?_);case s=>(and_intros<;>omega)))|((with_reducible refine gC ?_);((with_reducible refine NCall.isF g ?_);refine NCall.subE [0] (c) rfl (by decide) rfl rfl ?_))|(with_reducible refine NLd.of (by with_reducible assumption) ?_))<;>(conv=>whnf))|((with_reducible refine gX ?_);(first|(with_reducible first|refine z3 ?_|refine z4 ?_|refine z5 ?_|refine z6 ?_|refine z8 ?_)|((with_reducible refine z29 ?_);intro A B hA hB;(conv=>whnf))))|(with_reducible first|refine z1 ?_|refine z2 ?_|refine z12 ?_|refine z13 ?_|refine z20 ?_)|((with_reducible refine gR ?_);((refine z31 rfl ?_);intro K hK;(conv=>whnf)))))
      exact ⟨⟨_, rfl, ⟨fun _ => hat hq, fun _ => by omega⟩⟩, rfl⟩
  · have hkl : k = l.length := by omega
    subst hkl
    rw [List.take_length] at hgone
    (repeat' (first|(with_reducible first|(refine hK _ _ ?_;clear hK K)|(refine hB ?_;clear hA hB A B)|(refine hK _ ?_;clear hK K))|((with_reducible refine gO ?_);(first|((with_reducible refine z25 ?_);intro K hK;(conv=>whnf))|(with_reducible refine z0 ?_)))|((((with_reducible refine gI ?_);(((with_reducible refine NIf.decN ?s ?_);case s=>omega))))<;>(conv=>whnf))|((with_reducible refine gX ?_);(first|(with_reducible first|refine z3 ?_|refine z4 ?_|refine z7 ?_|refine z8 ?_)|((with_reducible refine z29 ?_);intro A B hA hB;(conv=>whnf))))|(with_reducible first|refine z1 ?_|refine z2 ?_|refine z10 ?_|refine z11 ?_|refine z19 ?_)|((with_reducible refine gR ?_);((refine z31 rfl ?_);intro K hK;(conv=>whnf)))))
    exact ⟨⟨_, rfl, ⟨fun h => by omega, fun h => by rw [hgone] at h; cases h⟩⟩, rfl⟩
theorem containsHs_c (q : Tp.Hs → Bool) (v : Value) (l : List Tp.Hs) (hv : Tp.HRow F v l) (hn : l.length ≤ 4611686018427387904) (g : FuncId) (first captured : List AV)
    (hg : ∀ x ∈ l, NCall Tryz.prog g (first ++ [.agg (Tp.hsC x)] ++ captured) [hpB F] fun r m => r = .bool (q x) ∧ m = [hpB F]) :
    NCall Tryz.prog 43 [.hs v l.length, .fn g first captured] [hpB F] fun r m => r = .bool (l.any q) ∧ m = [hpB F] := by
  have hi := indexHs_c F q v l hv hn g first captured hg
  refine ncall_of Tryz.func43 rfl (by decide) ?_
  (repeat' (first|(with_reducible first|(refine hK _ _ ?_;clear hK K)|(refine hK _ ?_;clear hK K))|((with_reducible refine gO ?_);(first|((with_reducible refine z25 ?_);intro K hK;(conv=>whnf))|(with_reducible refine z0 ?_)))|((((with_reducible refine gC ?_);((with_reducible refine NCall.isF 80 ?_);refine NCall.subw [0] _ _ (hi) rfl (by decide) rfl ?_; rintro _ _ ⟨⟨j, rfl, hj⟩, rfl⟩; refine ⟨Nat.le_of_ble_eq_true rfl, _, rfl, ?_⟩)))<;>(conv=>whnf))|((with_reducible refine gX ?_);((with_reducible first|refine z3 ?_|refine z4 ?_|refine z8 ?_)))|(with_reducible first|refine z1 ?_|refine z2 ?_)|((with_reducible refine gR ?_);((refine z31 rfl ?_);intro K hK;(conv=>whnf)))|((with_reducible refine gF ?_);((refine z33 rfl ?_);intro K hK;(conv=>whnf)))))
  all_goals
    refine ⟨?_, rfl⟩
    congr 1
    by_cases h : 0 ≤ j
    · rw [hj.1 h]; exact decide_eq_true h
    · rw [show l.any q = false by cases e : l.any q with | false => rfl | true => exact (h (hj.2 e)).elim]; exact decide_eq_false h
theorem isLk_c (x : Tp.Lk) (p : Int) (b : Addr) (h : F.c (b.add 0) (.int .i64 p)) : NCall Tryz.prog 42 [.agg (Tp.lkC x), .hp b 0] [hpB F] fun r m => r = .bool (Tp.lNamed p x) ∧ m = [hpB F] := by
  refine NCall.fits (K := fun r m => r = .bool (Tp.lNamed p x) ∧ MemFits m [hpB F]) ?_ fun r m' h => ⟨r, _, rfl, h.2, h.1, rfl⟩
  obtain ⟨a, pa, b', pb, least, most⟩ := x
  simp only [Tp.lkC, Tp.hsC, Tp.lNamed, Tp.hNamed]
  refine ncall_of Tryz.func42 rfl (by decide) ?_
  (repeat' (first|(with_reducible first|(refine hK _ _ ?_;clear hK K)|(refine hK _ ?_;clear hK K))|((with_reducible refine gO ?_);(first|((with_reducible first|refine z25 ?_|refine z26 ?_);intro K hK;(conv=>whnf))|(with_reducible refine z0 ?_)))|((first|((with_reducible refine gI ?_);(first|((with_reducible refine NIf.decY ?s ?_);case s=>assumption)|((with_reducible refine NIf.decN ?s ?_);case s=>assumption)|(with_reducible refine NIf.dec (fun _=>?_) (fun _=>?_))))|((with_reducible refine gN ?_);(with_reducible refine NN.a5 ?_))|((with_reducible refine gH ?_);((with_reducible refine NH.mk ?s ?_);case s=>(and_intros<;>with_reducible rfl)))|(with_reducible refine NLd.of (by with_reducible assumption) ?_))<;>(conv=>whnf))|((with_reducible refine gX ?_);((with_reducible first|refine z3 ?_|refine z4 ?_|refine z8 ?_)))|(with_reducible first|refine z1 ?_|refine z2 ?_)|((with_reducible refine gR ?_);((refine z31 rfl ?_);intro K hK;(conv=>whnf)))|((with_reducible refine gF ?_);((refine z33 rfl ?_);intro K hK;(conv=>whnf)))|((intro _;skip)<;>(conv=>whnf))))
  all_goals
    refine ⟨?_, MemFits.pre 1 rfl⟩
    simp_all
theorem isHs_c (x : Tp.Hs) (p : Int) (b : Addr) (h : F.c (b.add 0) (.int .i64 p)) : NCall Tryz.prog 44 [.agg (Tp.hsC x), .hp b 0] [hpB F] fun r m => r = .bool (Tp.hNamed p x) ∧ m = [hpB F] := by
  refine NCall.fits (K := fun r m => r = .bool (Tp.hNamed p x) ∧ MemFits m [hpB F]) ?_ fun r m' h => ⟨r, _, rfl, h.2, h.1, rfl⟩
  obtain ⟨at_, port⟩ := x
  simp only [Tp.lkC, Tp.hsC, Tp.lNamed, Tp.hNamed]
  refine ncall_of Tryz.func44 rfl (by decide) ?_
  (repeat' (first|(with_reducible first|(refine hK _ _ ?_;clear hK K)|(refine hK _ ?_;clear hK K))|((with_reducible refine gO ?_);(first|((with_reducible refine z25 ?_);intro K hK;(conv=>whnf))|(with_reducible refine z0 ?_)))|((first|((with_reducible refine gN ?_);(with_reducible refine NN.a5 ?_))|((with_reducible refine gH ?_);((with_reducible refine NH.mk ?s ?_);case s=>(and_intros<;>with_reducible rfl)))|(with_reducible refine NLd.of (by with_reducible assumption) ?_))<;>(conv=>whnf))|((with_reducible refine gX ?_);((with_reducible first|refine z3 ?_|refine z4 ?_|refine z8 ?_)))|(with_reducible first|refine z1 ?_|refine z2 ?_)|((with_reducible refine gR ?_);((refine z31 rfl ?_);intro K hK;(conv=>whnf)))|((with_reducible refine gF ?_);((refine z33 rfl ?_);intro K hK;(conv=>whnf)))|((intro _;skip)<;>(conv=>whnf))))
  all_goals
    refine ⟨?_, MemFits.pre 1 rfl⟩
    simp_all
theorem named30_c (t : Tp.T) (lv hv : Value) (p : Int) (ht : Tp.At F t lv hv) (hl : t.ls.length ≤ 1000) (hh : t.hs.length ≤ 1000) : NCall Tryz.prog 11 [.agg (Tp.cs t lv hv), .int .i64 p] [hpB F] fun r m => r = .bool (Tp.named t p) ∧ m = [hpB F] := by
  refine NCall.fits (K := fun r m => r = .bool (Tp.named t p) ∧ MemFits m [hpB F]) ?_ fun r m' h => ⟨r, _, rfl, h.2, h.1, rfl⟩
  have hlo := ht.l.ok
  have hho := ht.h.ok
  have cl : ∀ b : Addr, NCall Tryz.prog 41 [.hs lv t.ls.length, .fn 42 [] [.ptr 1 b 0]] [hpB F, ⟨b, [.int .i64 p], .var 3⟩] fun r m => r = .bool (t.ls.any (Tp.lNamed p)) ∧ m = [hpB F, ⟨b, [.int .i64 p], .var 3⟩] := fun b => by
    have hnew := addF.new (F := F) (a := b) (vs := denL [.int .i64 p])
    obtain ⟨c0, _⟩ := hnew
    exact NCall.keep (containsLk_c (addF F b (denL [.int .i64 p])) (Tp.lNamed p) lv t.ls (Tp.LRow.mono addF.old ht.l) (by omega) 42 [] [.hp b 0] fun x _ => isLk_c _ x p b c0) rfl (MemFits.freezeVar (m := [])) rfl fun r mL' h => ⟨r, rfl, h.1, rfl⟩
  have ch : ∀ b : Addr, NCall Tryz.prog 43 [.hs hv t.hs.length, .fn 44 [] [.ptr 1 b 0]] [hpB F, ⟨b, [.int .i64 p], .var 3⟩] fun r m => r = .bool (t.hs.any (Tp.hNamed p)) ∧ m = [hpB F, ⟨b, [.int .i64 p], .var 3⟩] := fun b => by
    have hnew := addF.new (F := F) (a := b) (vs := denL [.int .i64 p])
    obtain ⟨c0, _⟩ := hnew
    exact NCall.keep (containsHs_c (addF F b (denL [.int .i64 p])) (Tp.hNamed p) hv t.hs (Tp.HRow.mono addF.old ht.h) (by omega) 44 [] [.hp b 0] fun x _ => isHs_c _ x p b c0) rfl (MemFits.freezeVar (m := [])) rfl fun r mL' h => ⟨r, rfl, h.1, rfl⟩
  refine ncall_of Tryz.func11 rfl (by decide) ?_
  unfold Tp.named Tp.cs
  generalize t.ls.any (Tp.lNamed p) = bl at *
  generalize t.hs.any (Tp.hNamed p) = bh at *
  cases bl
  · (repeat' (first|(with_reducible first|(refine hK _ _ ?_;clear hK K)|(refine hK _ ?_;clear hK K))|((with_reducible refine gO ?_);(first|((with_reducible first|refine z25 ?_|refine z26 ?_);intro K hK;(conv=>whnf))|(with_reducible refine z0 ?_)))|((first|((with_reducible refine gI ?_);(((with_reducible refine NIf.no ?s ?_);case s=>rfl)))|((with_reducible refine gN ?_);(with_reducible refine NN.a5 ?_))|((with_reducible refine gH ?_);((with_reducible refine NH.mk ?s ?_);case s=>(and_intros<;>with_reducible rfl)))|((with_reducible refine gC ?_);(first|((with_reducible refine NCall.isF 41 ?_);refine NCall.subE [0, 2] (cl _) rfl (by decide) rfl rfl ?_)|((with_reducible refine NCall.isF 43 ?_);refine NCall.subE [0, 2] (ch _) rfl (by decide) rfl rfl ?_))))<;>(conv=>whnf))|((with_reducible refine gX ?_);((with_reducible first|refine z3 ?_|refine z4 ?_|refine z8 ?_)))|(with_reducible first|refine z1 ?_|refine z2 ?_)|((with_reducible refine gR ?_);((refine z31 rfl ?_);intro K hK;(conv=>whnf)))|((with_reducible refine gF ?_);((refine z33 rfl ?_);intro K hK;(conv=>whnf)))|((intro _;skip)<;>(conv=>whnf))))
    all_goals exact ⟨rfl, MemFits.pre 1 rfl⟩
  · (repeat' (first|(with_reducible first|(refine hK _ _ ?_;clear hK K)|(refine hK _ ?_;clear hK K))|((with_reducible refine gO ?_);(first|((with_reducible first|refine z25 ?_|refine z26 ?_);intro K hK;(conv=>whnf))|(with_reducible refine z0 ?_)))|((first|((with_reducible refine gI ?_);(((with_reducible refine NIf.yes ?s ?_);case s=>rfl)))|((with_reducible refine gN ?_);(with_reducible refine NN.a5 ?_))|((with_reducible refine gH ?_);((with_reducible refine NH.mk ?s ?_);case s=>(and_intros<;>with_reducible rfl)))|((with_reducible refine gC ?_);(((with_reducible refine NCall.isF 41 ?_);refine NCall.subE [0, 2] (cl _) rfl (by decide) rfl rfl ?_))))<;>(conv=>whnf))|((with_reducible refine gX ?_);((with_reducible first|refine z3 ?_|refine z4 ?_|refine z8 ?_)))|(with_reducible first|refine z1 ?_|refine z2 ?_)|((with_reducible refine gR ?_);((refine z31 rfl ?_);intro K hK;(conv=>whnf)))|((with_reducible refine gF ?_);((refine z33 rfl ?_);intro K hK;(conv=>whnf)))|((intro _;skip)<;>(conv=>whnf))))
    all_goals exact ⟨rfl, MemFits.pre 1 rfl⟩
end
end Go.Proofs.YtpkjnmddembkjaaGreatDoor
