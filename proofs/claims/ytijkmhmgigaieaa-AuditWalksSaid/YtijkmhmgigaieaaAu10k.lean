/-
  Check over rows of one's own that stay one's own.
-/
import Derived.Test.YtijkmhmgigaieaaAu5
import Derived.Test.YtijkmhmgigaieaaTc15e
namespace Go.Proofs.Ytijkmhmgigaieaa
open Go.Sx
set_option maxRecDepth 20000
set_option maxHeartbeats 4000000
set_option linter.unusedVariables false
namespace Au
theorem one_routes {F : Heap} {A : Option Addr} {cap b : Nat} {r : List (List Int)} (hr : Rt.Row F (.slice A r.length cap) r) (h : F.c ⟨b, 0, none⟩ (.slice A r.length cap)) : RRow F (.slice (some ⟨b, 0, none⟩) 1 1) [r] :=
  ⟨⟨_, _, rfl, Nat.le_refl _, fun h => by cases h⟩, fun k x hx => by
    obtain ⟨hk, rfl⟩ := List.getElem?_eq_some_iff.1 hx
    have hk0 : k = 0 := by simpa using hk
    subst hk0
    exact ⟨[.slice A r.length cap], ⟨A, cap, hr, rfl⟩, rfl, h, trivial⟩⟩
theorem few_one {r : List (List Int)} (h : Rt.few r) : fewR [r] := ⟨by show (1 : Nat) ≤ 1000; decide, fun x hx => by rw [List.mem_singleton.1 hx]; exact h⟩
end Au
theorem Au.eA_sw : ∀ (l : List Tc.E) (i : Nat) (e : Tc.E), l[i]? = some e → (Tc.eA l)[i * 6 + 3]? = some (.int .i64 e.sw)
  | [], i, e, h => by cases h
  | a :: l, 0, e, h => by cases h; rfl
  | a :: l, i + 1, e, h => by
    have hh := Au.eA_sw l i e h
    have : Tc.eA (a :: l) = [.int .i64 a.kind, .int .i64 a.real, .int .i64 a.u, .int .i64 a.sw, .int .i64 a.x, .int .i64 a.y] ++ Tc.eA l := rfl
    rw [this, List.getElem?_append_right (by show 6 ≤ (i + 1) * 6 + 3; omega)]
    rw [show (i + 1) * 6 + 3 - [AV.int .i64 a.kind, .int .i64 a.real, .int .i64 a.u, .int .i64 a.sw, .int .i64 a.x, .int .i64 a.y].length = i * 6 + 3 by show (i + 1) * 6 + 3 - 6 = _; omega]
    exact hh
theorem Au.eA_set : ∀ (l : List Tc.E) (i : Nat) (e : Tc.E) (x : Int), l[i]? = some e → Tc.eA (l.set i { e with sw := x }) = (Tc.eA l).set (i * 6 + 3) (.int .i64 x)
  | [], i, e, x, h => by cases h
  | a :: l, 0, e, x, h => by cases h; rfl
  | a :: l, i + 1, e, x, h => by
    have hh := Au.eA_set l i e x h
    have t1 : ∀ l, Tc.eA (a :: l) = [.int .i64 a.kind, .int .i64 a.real, .int .i64 a.u, .int .i64 a.sw, .int .i64 a.x, .int .i64 a.y] ++ Tc.eA l := fun l => rfl
    rw [List.set_cons_succ, t1, t1, hh, List.set_append, if_neg (by show ¬(i + 1) * 6 + 3 < 6; omega)]
    rw [show (i + 1) * 6 + 3 - [AV.int .i64 a.kind, .int .i64 a.real, .int .i64 a.u, .int .i64 a.sw, .int .i64 a.x, .int .i64 a.y].length = i * 6 + 3 by show (i + 1) * 6 + 3 - 6 = _; omega]
/-- Where nothing is found, all stays as it was. -/
theorem check42_keep (F : Heap) (t : Tp.T) (lv hv w : Value) (A : Option Addr) (cap b j1 j2 : Nat) (r : List (List Int)) (l : List Tc.E) (cs : List AV) (ty ty2 : TypeId) (ht : Tp.At F t lv hv) (hl : t.ls.length ≤ 1000) (hh : t.hs.length ≤ 1000) (hr : Rt.Row F (.slice A r.length cap) r) (hf : Rt.few r) (hcs : denL cs = l.flatMap Tc.E.V) (hel : l.length ≤ 1000) (hno : Au.check t [r] l = []) :
    NCall Try.prog 11 [.agg (Tp.cs t lv hv), .sl j1 (.slice (some ⟨b, 0, none⟩) 1 1) 1, .sl j2 w l.length] [hpB F, ⟨addrOf w, cs, .row w ty 6 l.length⟩, ⟨⟨b, 0, none⟩, [.hs (.slice A r.length cap) r.length], .row (.slice (some ⟨b, 0, none⟩) 1 1) ty2 1 1⟩]
      fun u m => (∃ x, SlOk x 0 ∧ u = .hs x 0) ∧ m = [hpB F, ⟨addrOf w, cs, .row w ty 6 l.length⟩, ⟨⟨b, 0, none⟩, [.hs (.slice A r.length cap) r.length], .row (.slice (some ⟨b, 0, none⟩) 1 1) ty2 1 1⟩] := by
  refine NCall.when (check42_c noHeap ⟨0, [], []⟩ (.slice none 0 0) (.slice none 0 0) (.slice none 0 0) (.slice none 0 0) [] [] ⟨RowF.nil, RowF.nil⟩ (by decide) (by decide) RowF.nil ⟨by decide, fun r h => by simp at h⟩ RowF.nil (by decide)) fun ⟨W, hW⟩ => ?_
  have hok := (hW.row (List.mem_cons_of_mem _ (List.mem_cons_self ..))).1
  have hrow := rowF_new (F := F) (sz := 6) (enc := Tc.E.V) hok hcs (fun x _ => rfl)
  have hr2 : Au.RRow (addF (addF F (addrOf w) (denL cs)) ⟨b, 0, none⟩ (denL [.hs (.slice A r.length cap) r.length])) (.slice (some ⟨b, 0, none⟩) 1 1) [r] :=
    Au.one_routes (Rt.Row.mono (addF.old.trans addF.old) hr) (.inr ⟨0, rfl, rfl⟩)
  have cc := check42_c _ t lv hv _ w [r] l (ht.mono (addF.old.trans addF.old)) hl hh hr2 (Au.few_one hf) (Tc.erow_mono addF.old hrow) hel
  rw [hno] at cc
  refine NCall.keep cc rfl (MemFits.freeze.trans MemFits.freeze) rfl fun u mL ⟨G, x, h1, h2, h3, h4⟩ => ⟨.hs x 0, by rw [h3]; rfl, ⟨x, h2.ok, rfl⟩, rfl⟩
/-- The same over the first events of a row. -/
theorem check42_keepV (F : Heap) (t : Tp.T) (lv hv w : Value) (A : Option Addr) (cap b j1 j2 : Nat) (r : List (List Int)) (l : List Tc.E) (cs : List AV) (ty ty2 : TypeId) (ht : Tp.At F t lv hv) (hl : t.ls.length ≤ 1000) (hh : t.hs.length ≤ 1000) (hr : Rt.Row F (.slice A r.length cap) r) (hf : Rt.few r) (hcs : denL cs = l.flatMap Tc.E.V) (hel : l.length ≤ 1000) (n : Nat) (hnl : n ≤ l.length) (hno : Au.check t [r] (l.take n) = []) :
    NCall Try.prog 11 [.agg (Tp.cs t lv hv), .sl j1 (.slice (some ⟨b, 0, none⟩) 1 1) 1, .view j2 w 6 0 n] [hpB F, ⟨addrOf w, cs, .row w ty 6 l.length⟩, ⟨⟨b, 0, none⟩, [.hs (.slice A r.length cap) r.length], .row (.slice (some ⟨b, 0, none⟩) 1 1) ty2 1 1⟩]
      fun u m => (∃ x, SlOk x 0 ∧ u = .hs x 0) ∧ m = [hpB F, ⟨addrOf w, cs, .row w ty 6 l.length⟩, ⟨⟨b, 0, none⟩, [.hs (.slice A r.length cap) r.length], .row (.slice (some ⟨b, 0, none⟩) 1 1) ty2 1 1⟩] := by
  refine NCall.when (check42_c noHeap ⟨0, [], []⟩ (.slice none 0 0) (.slice none 0 0) (.slice none 0 0) (.slice none 0 0) [] [] ⟨RowF.nil, RowF.nil⟩ (by decide) (by decide) RowF.nil ⟨by decide, fun r h => by simp at h⟩ RowF.nil (by decide)) fun ⟨W, hW⟩ => ?_
  have hok := (hW.row (List.mem_cons_of_mem _ (List.mem_cons_self ..))).1
  have hrow := rowF_new (F := F) (sz := 6) (enc := Tc.E.V) hok hcs (fun x _ => rfl)
  have hcut := RowF.cut hrow (lo := 0) (hi := n) (Nat.zero_le _) hnl
  rw [List.drop_zero, Nat.sub_zero] at hcut
  have hr2 : Au.RRow (addF (addF F (addrOf w) (denL cs)) ⟨b, 0, none⟩ (denL [.hs (.slice A r.length cap) r.length])) (.slice (some ⟨b, 0, none⟩) 1 1) [r] :=
    Au.one_routes (Rt.Row.mono (addF.old.trans addF.old) hr) (.inr ⟨0, rfl, rfl⟩)
  have cc := check42_c _ t lv hv _ _ [r] (l.take n) (ht.mono (addF.old.trans addF.old)) hl hh hr2 (Au.few_one hf) (Tc.erow_mono addF.old hcut) (by rw [List.length_take]; omega)
  rw [hno] at cc
  refine NCall.keep cc (by have e : slOf (cutSl w 6 0 n) = cutSl w 6 0 n := slOf_cutSl w 6 0 n; simp [denL, AV.den]; exact e) (MemFits.freeze.trans MemFits.freeze) rfl fun u mL ⟨G, x, h1, h2, h3, h4⟩ => ⟨.hs x 0, by rw [h3]; rfl, ⟨x, h2.ok, rfl⟩, rfl⟩
/-- What is found last. -/
theorem check42_last (F : Heap) (t : Tp.T) (lv hv w : Value) (A : Option Addr) (cap b j1 j2 : Nat) (r : List (List Int)) (l : List Tc.E) (cs : List AV) (ty ty2 : TypeId) (ht : Tp.At F t lv hv) (hl : t.ls.length ≤ 1000) (hh : t.hs.length ≤ 1000) (hr : Rt.Row F (.slice A r.length cap) r) (hf : Rt.few r) (hcs : denL cs = l.flatMap Tc.E.V) (hel : l.length ≤ 1000) (l0 : List Au.Fd) (x0 : Au.Fd) (hno : Au.check t [r] l = l0 ++ [x0]) :
    NCall Try.prog 11 [.agg (Tp.cs t lv hv), .sl j1 (.slice (some ⟨b, 0, none⟩) 1 1) 1, .sl j2 w l.length] [hpB F, ⟨addrOf w, cs, .row w ty 6 l.length⟩, ⟨⟨b, 0, none⟩, [.hs (.slice A r.length cap) r.length], .row (.slice (some ⟨b, 0, none⟩) 1 1) ty2 1 1⟩]
      fun u m => (∃ G x, F.le G ∧ SlOk x (l0.length + 1) ∧ u = .hs x (l0.length + 1) ∧ (G.c ((addrOf x).add (l0.length * 2)) (.int .i64 x0.1) ∧ G.c ((addrOf x).add (l0.length * 2 + 1)) (.int .i64 x0.2)) ∧ m = [hpB G, hpB noHeap, hpB noHeap]) := by
  refine NCall.when (check42_c noHeap ⟨0, [], []⟩ (.slice none 0 0) (.slice none 0 0) (.slice none 0 0) (.slice none 0 0) [] [] ⟨RowF.nil, RowF.nil⟩ (by decide) (by decide) RowF.nil ⟨by decide, fun r h => by simp at h⟩ RowF.nil (by decide)) fun ⟨W, hW⟩ => ?_
  have hok := (hW.row (List.mem_cons_of_mem _ (List.mem_cons_self ..))).1
  have hrow := rowF_new (F := F) (sz := 6) (enc := Tc.E.V) hok hcs (fun x _ => rfl)
  have hr2 : Au.RRow (addF (addF F (addrOf w) (denL cs)) ⟨b, 0, none⟩ (denL [.hs (.slice A r.length cap) r.length])) (.slice (some ⟨b, 0, none⟩) 1 1) [r] :=
    Au.one_routes (Rt.Row.mono (addF.old.trans addF.old) hr) (.inr ⟨0, rfl, rfl⟩)
  have cc := check42_c _ t lv hv _ w [r] l (ht.mono (addF.old.trans addF.old)) hl hh hr2 (Au.few_one hf) (Tc.erow_mono addF.old hrow) hel
  rw [hno] at cc
  refine NCall.fits (NCall.pre cc rfl (MemFits.freeze.trans MemFits.freeze)) fun u mL ⟨G, x, h1, h2, h3, h4⟩ => ?_
  subst h3 h4
  have hln : (l0 ++ [x0]).length = l0.length + 1 := by simp
  have hok2 := h2.ok
  rw [hln] at hok2 ⊢
  obtain ⟨us, e1, _, e2⟩ := h2.at_ l0.length x0 (by simp)
  subst e1
  exact ⟨_, _, rfl, (MemFits.noHeap _).trans ((MemFits.noHeap _).trans (MemFits.pick [2, 0, 1] (by decide) rfl)), G, x, (addF.old.trans addF.old).trans h1, hok2, rfl, ⟨e2.1, e2.2.1⟩, rfl⟩
end Go.Proofs.Ytijkmhmgigaieaa


