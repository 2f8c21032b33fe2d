/-
  Policies: which may be, by the document. (Printed by gen_po6.py.); Networks that may be. Plain.
-/
import Derived.Test.YtpkjnmddembkjaaGreatDoorJ19
import Derived.Test.YtpkjnmddembkjaaGreatDoorJ20
import Derived.Test.YtpkjnmddembkjaaGreatDoorJ21
import Derived.Test.YtpkjnmddembkjaaGreatDoorJ16
namespace Go.Proofs.YtpkjnmddembkjaaGreatDoor
open Go.Sx
set_option maxRecDepth 20000
set_option linter.unusedSimpArgs false
set_option linter.unusedVariables false
set_option maxHeartbeats 4000000
set_option linter.unusedVariables false
section
variable (F : Heap)
theorem fits27_z (k : Int) (hk : ¬ (k = 1 ∨ k = 2 ∨ k = 3 ∨ k = 4 ∨ k = 5)) (pk pf pv : Int) (pl : List Pd.T) (f v : Int) (l : List Po.T) (pu u : Value) (tp : Int) (nb rb : Bool) (htp : Pd.top f = tp) (hnb : Pd.same (.mk pk pf pv pl) Po.noneP = nb) (hrb : Pd.right (.mk pk pf pv pl) = rb) (hu : Po.Row F u l) (hok : SlOk u l.length) (hpok : SlOk pu pl.length) (hln : l.length ≤ 4611686018427387904)
    (ih : ∀ x ∈ l, ∀ pA A, Po.At F x pA A → NCall Tryz.prog 45 [.agg (Po.cs x pA A)] [hpB F] fun r m => r = .bool (Po.fits x) ∧ m = [hpB F])
    (ct : NCall Tryz.prog 81 [.int .i64 f] [] fun r _ => r = .int .i64 tp)
    (cr : NCall Tryz.prog 20 [.agg [.int .i64 pk, .int .i64 pf, .int .i64 pv, .hs pu pl.length]] [hpB F] fun r m => r = .bool rb ∧ m = [hpB F])
    (cn : NCall Tryz.prog 23 [.agg [.int .i64 pk, .int .i64 pf, .int .i64 pv, .hs pu pl.length], .agg [.int .i64 0, .int .i64 0, .int .i64 0, .hs (.slice none 0 0) 0]] [hpB F] fun r m => r = .bool nb ∧ m = [hpB F]) :
    NCall Tryz.prog 45 [.agg [.int .i64 k, .int .i64 pk, .int .i64 pf, .int .i64 pv, .hs pu pl.length, .int .i64 f, .int .i64 v, .hs u l.length]] [hpB F] fun r m => r = .bool (Po.shape k (.mk pk pf pv pl) f v l.length && Po.fitsL l) ∧ MemFits m [hpB F] := by
  have hfl := Po.fitsL_iff l
  have hsh : Po.shape k (.mk pk pf pv pl) f v l.length = decide ((k : Int) = 1 ∧ rb = true ∧ (f = 0 ∧ v = 0) ∧ l.length = 0 ∨ (k : Int) = 2 ∧ nb = true ∧ (0 ≤ f ∧ f ≤ 4) ∧ (0 ≤ v ∧ v ≤ tp) ∧ l.length = 0 ∨ ((k : Int) = 3 ∨ (k : Int) = 4) ∧ nb = true ∧ (f = 0 ∧ v = 0) ∧ 2 ≤ l.length ∧ l.length ≤ 8 ∨ (k : Int) = 5 ∧ rb = true ∧ (f = 0 ∧ v = 0) ∧ l.length = 2) := by rw [← htp, ← hnb, ← hrb]; rfl
  clear htp hnb hrb
  refine ncall_of Tryz.func45 rfl (by decide) ?_
  rw [show Po.shape k (.mk pk pf pv pl) f v l.length = false by rw [hsh]; exact decide_eq_false (by omega)]
  clear hsh hfl ih
  rw [Bool.false_and]
  by_cases hk0 : k < 1
  · (repeat' (first|(with_reducible first|(refine hK _ _ ?_;clear hK K)|(refine hA ?_;clear hA hB A B)|(refine hK _ ?_;clear hK K))|((with_reducible refine gO ?_);(first|((with_reducible first|refine z25 ?_|refine z26 ?_);intro K hK;(conv=>whnf))|(with_reducible refine z0 ?_)))|((first|((with_reducible refine gI ?_);(first|((with_reducible refine NIf.decY ?s ?_);case s=>assumption)|((with_reducible refine NIf.yes ?s ?_);case s=>rfl)))|((with_reducible refine gN ?_);(with_reducible refine NN.a5 ?_))|((with_reducible refine gH ?_);((with_reducible refine NH.mk ?s ?_);case s=>(and_intros<;>first|with_reducible rfl|omega))))<;>(conv=>whnf))|((with_reducible refine gX ?_);(first|(with_reducible first|refine z3 ?_|refine z4 ?_|refine z8 ?_)|((with_reducible refine z29 ?_);intro A B hA hB;(conv=>whnf))))|(with_reducible first|refine z1 ?_|refine z2 ?_|refine z12 ?_)|((with_reducible refine gR ?_);((refine z31 rfl ?_);intro K hK;(conv=>whnf)))|((with_reducible refine gF ?_);((refine z33 rfl ?_);intro K hK;(conv=>whnf)))|((intro _;skip)<;>(conv=>whnf))))
    all_goals first
      | exact ⟨rfl, MemFits.pre 1 rfl⟩
      | (exfalso; omega)
  · (repeat' (first|(with_reducible first|(refine hK _ _ ?_;clear hK K)|(refine hA ?_;clear hA hB A B)|(refine hK _ ?_;clear hK K))|((with_reducible refine gO ?_);(first|((with_reducible first|refine z25 ?_|refine z26 ?_);intro K hK;(conv=>whnf))|(with_reducible refine z0 ?_)))|((first|((with_reducible refine gI ?_);(first|((with_reducible refine NIf.decY ?s ?_);case s=>omega)|((with_reducible refine NIf.decN ?s ?_);case s=>assumption)|((with_reducible refine NIf.yes ?s ?_);case s=>rfl)))|((with_reducible refine gN ?_);(with_reducible refine NN.a5 ?_))|((with_reducible refine gH ?_);((with_reducible refine NH.mk ?s ?_);case s=>(and_intros<;>first|with_reducible rfl|omega))))<;>(conv=>whnf))|((with_reducible refine gX ?_);(first|(with_reducible first|refine z3 ?_|refine z4 ?_|refine z8 ?_)|((with_reducible refine z29 ?_);intro A B hA hB;(conv=>whnf))))|(with_reducible first|refine z1 ?_|refine z2 ?_|refine z12 ?_)|((with_reducible refine gR ?_);((refine z31 rfl ?_);intro K hK;(conv=>whnf)))|((with_reducible refine gF ?_);((refine z33 rfl ?_);intro K hK;(conv=>whnf)))|((intro _;skip)<;>(conv=>whnf))))
    all_goals first
      | exact ⟨rfl, MemFits.pre 1 rfl⟩
      | (exfalso; omega)
theorem fits27_c : ∀ (n : Nat) (x : Po.T) (pu u : Value), Po.tot x ≤ n → Po.tot x ≤ 4611686018427387904 → Po.At F x pu u →
    NCall Tryz.prog 45 [.agg (Po.cs x pu u)] [hpB F] fun r m => r = .bool (Po.fits x) ∧ m = [hpB F]
  | 0, x, pu, u, hn, _, _ => absurd (Po.tot_pos x) (by omega)
  | n + 1, ⟨k, ⟨pk, pf, pv, pl⟩, f, v, l⟩, pu, u, hn, hs, hx => by
    refine NCall.fits (K := fun r m => r = .bool (Po.fits (.mk k (.mk pk pf pv pl) f v l)) ∧ MemFits m [hpB F]) ?_ fun r m' h => ⟨r, _, rfl, h.2, h.1, rfl⟩
    have hll := Po.length_le l
    have e2 := Po.tot_mk k (.mk pk pf pv pl) f v l
    have ih : ∀ x ∈ l, ∀ pA A, Po.At F x pA A → NCall Tryz.prog 45 [.agg (Po.cs x pA A)] [hpB F] fun r m => r = .bool (Po.fits x) ∧ m = [hpB F] := fun x hx pA A hA => fits27_c n x pA A (by have := Po.tot_lt (k := k) (q := .mk pk pf pv pl) (f := f) (v := v) hx; omega) (by have := Po.tot_lt (k := k) (q := .mk pk pf pv pl) (f := f) (v := v) hx; omega) hA
    have ct := reftop26_c f
    have cr := refright26_c F (.mk pk pf pv pl) pu (by omega) hx.p
    have cn := refsame26_c F _ (.mk pk pf pv pl) Po.noneP pu (.slice none 0 0) (Nat.le_refl _) (by omega) (by decide +kernel) hx.p RowF.nil
    rw [Po.fits, po_cs]
    by_cases hk : k = 1 ∨ k = 2 ∨ k = 3 ∨ k = 4 ∨ k = 5
    · rcases hk with rfl | rfl | rfl | rfl | rfl
      · exact fits27_1 F pk pf pv pl f v l pu u _ _ _ rfl rfl rfl hx.l hx.l.ok hx.p.ok (by omega) ih ct cr cn
      · exact fits27_2 F pk pf pv pl f v l pu u _ _ _ rfl rfl rfl hx.l hx.l.ok hx.p.ok (by omega) ih ct cr cn
      · exact fits27_3 F pk pf pv pl f v l pu u _ _ _ rfl rfl rfl hx.l hx.l.ok hx.p.ok (by omega) ih ct cr cn
      · exact fits27_4 F pk pf pv pl f v l pu u _ _ _ rfl rfl rfl hx.l hx.l.ok hx.p.ok (by omega) ih ct cr cn
      · exact fits27_5 F pk pf pv pl f v l pu u _ _ _ rfl rfl rfl hx.l hx.l.ok hx.p.ok (by omega) ih ct cr cn
    · exact fits27_z F k hk pk pf pv pl f v l pu u _ _ _ rfl rfl rfl hx.l hx.l.ok hx.p.ok (by omega) ih ct cr cn
theorem refright27_c (x : Po.T) (pu u : Value) (hs : Po.tot x ≤ 4611686018427387904) (hx : Po.At F x pu u) : NCall Tryz.prog 13 [.agg (Po.cs x pu u)] [hpB F] fun r m => r = .bool (Po.right x) ∧ m = [hpB F] := by
  refine NCall.fits (K := fun r m => r = .bool (Po.right x) ∧ MemFits m [hpB F]) ?_ fun r m' h => ⟨r, _, rfl, h.2, h.1, rfl⟩
  have c1 := refsize27_c F _ x pu u (Nat.le_refl _) hs hx
  have c2 := refdeep27_c F _ x pu u (Nat.le_refl _) hs hx
  have c3 := refwide27_c F _ x pu u (Nat.le_refl _) hs hx
  have c4 := fits27_c F _ x pu u (Nat.le_refl _) hs hx
  have hd := Po.deep_tot x
  have hz := Po.size_tot x
  have hwd := Po.wide_le x
  have hok := hx.l.ok
  have hpok := hx.p.ok
  unfold Po.right
  generalize Po.fits x = fb at *
  generalize Po.size x = sz at *
  generalize Po.deep x = dp at *
  generalize Po.wide x = wd at *
  simp only [Po.cs] at *
  clear hx
  refine ncall_of Tryz.func13 rfl (by decide) ?_
  cases fb
  · (repeat' (first|(with_reducible first|(refine hK _ _ ?_;clear hK K)|(refine hK _ ?_;clear hK K))|((with_reducible refine gO ?_);(first|((with_reducible first|refine z25 ?_|refine z26 ?_);intro K hK;(conv=>whnf))|(with_reducible refine z0 ?_)))|((first|((with_reducible refine gI ?_);(((with_reducible refine NIf.no ?s ?_);case s=>rfl)))|((with_reducible refine gH ?_);((with_reducible refine NH.mk ?s ?_);case s=>(and_intros<;>with_reducible rfl)))|((with_reducible refine gC ?_);((with_reducible refine NCall.isF 45 ?_);refine NCall.subE [0] (c4) rfl (by decide) rfl rfl ?_)))<;>(conv=>whnf))|((with_reducible refine gX ?_);((with_reducible first|refine z3 ?_|refine z4 ?_|refine z8 ?_)))|(with_reducible first|refine z1 ?_|refine z2 ?_)|((with_reducible refine gR ?_);((refine z31 rfl ?_);intro K hK;(conv=>whnf)))|((with_reducible refine gF ?_);((refine z33 rfl ?_);intro K hK;(conv=>whnf)))|((intro _;skip)<;>(conv=>whnf))))
    all_goals first
      | (exfalso; omega)
      | exact ⟨by simp, MemFits.pre 1 rfl⟩
  by_cases h1 : dp ≤ 8
  · by_cases h2 : sz ≤ 64
    · by_cases h3 : wd ≤ 64
      · (repeat' (first|(with_reducible first|(refine hK _ _ ?_;clear hK K)|(refine hK _ ?_;clear hK K))|((with_reducible refine gO ?_);(first|((with_reducible first|refine z25 ?_|refine z26 ?_);intro K hK;(conv=>whnf))|(with_reducible refine z0 ?_)))|((first|((with_reducible refine gI ?_);(first|((with_reducible refine NIf.decY ?s ?_);case s=>omega)|((with_reducible refine NIf.yes ?s ?_);case s=>rfl)))|((with_reducible refine gH ?_);((with_reducible refine NH.mk ?s ?_);case s=>(and_intros<;>with_reducible rfl)))|((with_reducible refine gC ?_);(first|((with_reducible refine NCall.isF 45 ?_);refine NCall.subE [0] (c4) rfl (by decide) rfl rfl ?_)|((with_reducible refine NCall.isF 33 ?_);refine NCall.subE [0] (c1) rfl (by decide) rfl rfl ?_)|((with_reducible refine NCall.isF 46 ?_);refine NCall.subE [0] (c2) rfl (by decide) rfl rfl ?_)|((with_reducible refine NCall.isF 47 ?_);refine NCall.subE [0] (c3) rfl (by decide) rfl rfl ?_))))<;>(conv=>whnf))|((with_reducible refine gX ?_);((with_reducible first|refine z3 ?_|refine z4 ?_|refine z8 ?_)))|(with_reducible first|refine z1 ?_|refine z2 ?_)|((with_reducible refine gR ?_);((refine z31 rfl ?_);intro K hK;(conv=>whnf)))|((with_reducible refine gF ?_);((refine z33 rfl ?_);intro K hK;(conv=>whnf)))|((intro _;skip)<;>(conv=>whnf))))
        all_goals first
          | (exfalso; omega)
          | (refine ⟨?_, MemFits.pre 1 rfl⟩; congr 1; simp [h1, h2, h3] <;> omega)
      · (repeat' (first|(with_reducible first|(refine hK _ _ ?_;clear hK K)|(refine hK _ ?_;clear hK K))|((with_reducible refine gO ?_);(first|((with_reducible first|refine z25 ?_|refine z26 ?_);intro K hK;(conv=>whnf))|(with_reducible refine z0 ?_)))|((first|((with_reducible refine gI ?_);(first|((with_reducible refine NIf.decY ?s ?_);case s=>omega)|((with_reducible refine NIf.yes ?s ?_);case s=>rfl)))|((with_reducible refine gH ?_);((with_reducible refine NH.mk ?s ?_);case s=>(and_intros<;>with_reducible rfl)))|((with_reducible refine gC ?_);(first|((with_reducible refine NCall.isF 45 ?_);refine NCall.subE [0] (c4) rfl (by decide) rfl rfl ?_)|((with_reducible refine NCall.isF 33 ?_);refine NCall.subE [0] (c1) rfl (by decide) rfl rfl ?_)|((with_reducible refine NCall.isF 46 ?_);refine NCall.subE [0] (c2) rfl (by decide) rfl rfl ?_)|((with_reducible refine NCall.isF 47 ?_);refine NCall.subE [0] (c3) rfl (by decide) rfl rfl ?_))))<;>(conv=>whnf))|((with_reducible refine gX ?_);((with_reducible first|refine z3 ?_|refine z4 ?_|refine z8 ?_)))|(with_reducible first|refine z1 ?_|refine z2 ?_)|((with_reducible refine gR ?_);((refine z31 rfl ?_);intro K hK;(conv=>whnf)))|((with_reducible refine gF ?_);((refine z33 rfl ?_);intro K hK;(conv=>whnf)))|((intro _;skip)<;>(conv=>whnf))))
        all_goals first
          | (exfalso; omega)
          | (refine ⟨?_, MemFits.pre 1 rfl⟩; congr 1; simp [h3] <;> omega)
    · (repeat' (first|(with_reducible first|(refine hK _ _ ?_;clear hK K)|(refine hK _ ?_;clear hK K))|((with_reducible refine gO ?_);(first|((with_reducible first|refine z25 ?_|refine z26 ?_);intro K hK;(conv=>whnf))|(with_reducible refine z0 ?_)))|((first|((with_reducible refine gI ?_);(first|((with_reducible refine NIf.decY ?s ?_);case s=>omega)|((with_reducible refine NIf.decN ?s ?_);case s=>omega)|((with_reducible refine NIf.yes ?s ?_);case s=>rfl)))|((with_reducible refine gH ?_);((with_reducible refine NH.mk ?s ?_);case s=>(and_intros<;>with_reducible rfl)))|((with_reducible refine gC ?_);(first|((with_reducible refine NCall.isF 45 ?_);refine NCall.subE [0] (c4) rfl (by decide) rfl rfl ?_)|((with_reducible refine NCall.isF 46 ?_);refine NCall.subE [0] (c2) rfl (by decide) rfl rfl ?_)|((with_reducible refine NCall.isF 33 ?_);refine NCall.subE [0] (c1) rfl (by decide) rfl rfl ?_))))<;>(conv=>whnf))|((with_reducible refine gX ?_);((with_reducible first|refine z3 ?_|refine z4 ?_|refine z8 ?_)))|(with_reducible first|refine z1 ?_|refine z2 ?_)|((with_reducible refine gR ?_);((refine z31 rfl ?_);intro K hK;(conv=>whnf)))|((with_reducible refine gF ?_);((refine z33 rfl ?_);intro K hK;(conv=>whnf)))|((intro _;skip)<;>(conv=>whnf))))
      all_goals first
        | (exfalso; omega)
        | (refine ⟨?_, MemFits.pre 1 rfl⟩; congr 1; simp [h2] <;> omega)
  · (repeat' (first|(with_reducible first|(refine hK _ _ ?_;clear hK K)|(refine hK _ ?_;clear hK K))|((with_reducible refine gO ?_);(first|((with_reducible first|refine z25 ?_|refine z26 ?_);intro K hK;(conv=>whnf))|(with_reducible refine z0 ?_)))|((first|((with_reducible refine gI ?_);(first|((with_reducible refine NIf.decN ?s ?_);case s=>omega)|((with_reducible refine NIf.yes ?s ?_);case s=>rfl)|((with_reducible refine NIf.no ?s ?_);case s=>rfl)))|((with_reducible refine gH ?_);((with_reducible refine NH.mk ?s ?_);case s=>(and_intros<;>with_reducible rfl)))|((with_reducible refine gC ?_);(first|((with_reducible refine NCall.isF 45 ?_);refine NCall.subE [0] (c4) rfl (by decide) rfl rfl ?_)|((with_reducible refine NCall.isF 46 ?_);refine NCall.subE [0] (c2) rfl (by decide) rfl rfl ?_))))<;>(conv=>whnf))|((with_reducible refine gX ?_);((with_reducible first|refine z3 ?_|refine z4 ?_|refine z8 ?_)))|(with_reducible first|refine z1 ?_|refine z2 ?_)|((with_reducible refine gR ?_);((refine z31 rfl ?_);intro K hK;(conv=>whnf)))|((with_reducible refine gF ?_);((refine z33 rfl ?_);intro K hK;(conv=>whnf)))|((intro _;skip)<;>(conv=>whnf))))
    all_goals first
      | (exfalso; omega)
      | (refine ⟨?_, MemFits.pre 1 rfl⟩; congr 1; simp [h1] <;> omega)
end
end Go.Proofs.YtpkjnmddembkjaaGreatDoor
namespace Go.Proofs.YtpkjnmddembkjaaGreatDoor
open Go.Sx
set_option maxRecDepth 20000
set_option linter.unusedVariables false
namespace Tp
abbrev Pl := Int × Int
def lkP (x : Lk) : List Pl := [(x.a, x.pa), (x.b, x.pb)]
def hsP (x : Hs) : Pl := (x.at_, x.port)
def places (t : T) : List Pl := t.ls.flatMap lkP ++ t.hs.map hsP
def lkOk (x : Lk) : Bool := decide (¬ x.a = x.b ∧ 1 ≤ x.least ∧ x.least ≤ x.most ∧ x.most ≤ 1000)
def plOk (t : T) (q : Pl) : Bool := decide ((0 ≤ q.1 ∧ q.1 < t.n) ∧ 0 ≤ q.2 ∧ q.2 < 8)
def bounds (t : T) : Bool := decide ((1 ≤ t.n ∧ t.n ≤ 8) ∧ t.ls.length ≤ 24 ∧ t.hs.length ≤ 8)
def right (t : T) : Bool := bounds t && (t.ls.all lkOk && ((places t).all (plOk t) && decide (places t).Nodup))
def cnt (t : T) (q : Pl) : Nat := (places t).count q
def port (t : T) (q : Pl) : Bool := plOk t q && decide (cnt t q = 1)
theorem all_next {α : Type} {q : α → Bool} {l : List α} {k : Nat} {x : α} (hx : l[k]? = some x) : (l.take (k + 1)).all q = ((l.take k).all q && q x) := by
  rw [List.take_add_one, hx, List.all_append]
  simp
theorem all_not {α : Type} {q : α → Bool} {l : List α} {k : Nat} {x : α} (hx : l[k]? = some x) (h : q x = false) : l.all q = false := by
  rw [List.all_eq_false]
  exact ⟨x, List.mem_of_getElem? hx, by rw [h]; simp⟩
theorem right_bounds {t : T} (h : bounds t = false) : right t = false := by unfold right; rw [h]; rfl
theorem right_lk {t : T} (h : t.ls.all lkOk = false) : right t = false := by unfold right; rw [h]; simp
theorem right_pl {t : T} (h : (places t).all (plOk t) = false) : right t = false := by unfold right; rw [h]; simp
theorem right_dup {t : T} (h : ¬ (places t).Nodup) : right t = false := by unfold right; rw [decide_eq_false h]; simp
theorem right_ok {t : T} (h : bounds t = true) (h2 : t.ls.all lkOk = true) (h3 : (places t).all (plOk t) = true) (h4 : (places t).Nodup) : right t = true := by unfold right; rw [h, h2, h3, decide_eq_true h4]; rfl
theorem nodup_take {l : List Pl} {k : Nat} {x : Pl} (hx : l[k]? = some x) (h : (l.take k).Nodup) (hno : x ∉ l.take k) : (l.take (k + 1)).Nodup := by
  rw [List.take_add_one, hx]
  exact List.nodup_append.2 ⟨h, by simp, fun a ha b hb e => by simp at hb; subst hb; subst e; exact hno ha⟩
theorem dup_take {l : List Pl} {k : Nat} {x : Pl} (hx : l[k]? = some x) (h : x ∈ l.take k) : ¬ l.Nodup := fun hn => by
  have h2 : (l.take (k + 1)).Nodup := hn.sublist (List.take_sublist ..)
  rw [List.take_add_one, hx] at h2
  exact (List.nodup_append.1 h2).2.2 x h x (by simp) rfl
theorem places_len (t : T) : (places t).length = 2 * t.ls.length + t.hs.length := by
  unfold places
  rw [List.length_append, List.length_map]
  congr 1
  induction t.ls with
  | nil => rfl
  | cons x l ih => rw [List.flatMap_cons, List.length_append, ih, List.length_cons]; show 2 + _ = _; omega
/-- The document's test of each place is that no place is named twice. -/
theorem port_all (t : T) (hl : t.ls.all lkOk = true) : (t.ls.all (fun x => port t (x.a, x.pa) && port t (x.b, x.pb)) && t.hs.all (fun h => port t (h.at_, h.port))) = ((places t).all (plOk t) && decide (places t).Nodup) := by
  have e : (t.ls.all (fun x => port t (x.a, x.pa) && port t (x.b, x.pb)) && t.hs.all (fun h => port t (h.at_, h.port))) = (places t).all (port t) := by
    unfold places
    rw [List.all_append, List.all_map]
    congr 1
    generalize port t = q
    induction t.ls with
    | nil => rfl
    | cons x l ih =>
      rw [List.all_cons, List.flatMap_cons, List.all_append, ih]
      congr 1
      simp [lkP]
  rw [e]
  have hn : (places t).Nodup ↔ ∀ q ∈ places t, cnt t q = 1 := by
    unfold cnt
    rw [List.nodup_iff_count]
    constructor
    · intro h q hq
      have h1 := h q
      have h2 := List.count_pos_iff.2 hq
      omega
    · intro h q
      by_cases hq : q ∈ places t
      · rw [h q hq]; exact Nat.le_refl _
      · rw [List.count_eq_zero.2 hq]; omega
  rw [Bool.eq_iff_iff]
  simp only [List.all_eq_true, Bool.and_eq_true, decide_eq_true_eq, hn, port]
  exact ⟨fun h => ⟨fun q hq => (h q hq).1, fun q hq => (h q hq).2⟩, fun h q hq => ⟨h.1 q hq, h.2 q hq⟩⟩
end Tp
end Go.Proofs.YtpkjnmddembkjaaGreatDoor
