/-
  Policies: rows of them that grow; the law's own turning of one into the other; is a field asked for, or set to, a number. (Printed by gen_po8.py.)
-/
import Derived.Test.YtngodakgbldlpaaGreatDoorTJ2
import Derived.Test.YtngodakgbldlpaaGreatDoorTPo2
import Derived.Test.YtngodakgbldlpaaGreatDoorTJ4
namespace Go.Proofs.YtngodakgbldlpaaGreatDoor
open Go.Sx
set_option maxRecDepth 20000
set_option linter.unusedSimpArgs false
set_option linter.unusedVariables false
set_option maxHeartbeats 4000000
set_option linter.unusedVariables false
namespace Po
/-- A policy, with the slices in which its parts lie. -/
structure L where
  x : T
  pu : Value
  u : Value
def psC (ps : List L) : List AV := ps.flatMap fun p => cs p.x p.pu p.u
def psV (p : L) : List Value := denL (cs p.x p.pu p.u)
theorem psC_den : ∀ ps, denL (psC ps) = ps.flatMap psV
  | [] => rfl
  | p :: ps => by
    have := psC_den ps
    unfold psC at *
    rw [List.flatMap_cons, List.flatMap_cons, denL_append, this]
    rfl
theorem psC_len (ps : List L) : (psC ps).length = ps.length * 8 := by
  induction ps with
  | nil => rfl
  | cons p ps ih =>
    unfold psC at *
    rw [List.flatMap_cons, List.length_append, ih, List.length_cons]
    show 8 + _ = _
    omega
theorem psC_next (ps : List L) (p : L) : psC (ps ++ [p]) = psC ps ++ cs p.x p.pu p.u := by
  unfold psC
  rw [List.flatMap_append]
  simp
/-- What is made stands for a policy. -/
def Got (F : Heap) (t : TypeId) (X : T) (v : AV) (m : List Blk) : Prop :=
  ∃ G pu u, ∃ ps : List L, F.le G ∧ ps.map (·.x) = X.l ∧ (∀ p ∈ ps, At G p.x p.pu p.u) ∧ Pd.Row G pu X.p.l ∧ v.den = (AV.agg (cs X pu u)).den ∧ MemFits m [hpB G, ⟨addrOf u, psC ps, .row u t 8 ps.length⟩]
theorem row_of {G : Heap} {u : Value} {ps : List L} (h : RowF G 8 (fun p vs => vs = psV p) u ps) (hall : ∀ p ∈ ps, At G p.x p.pu p.u) : Row G u (ps.map (·.x)) := by
  refine ⟨by rw [List.length_map]; exact h.ok, fun k x hx => ?_⟩
  rw [List.getElem?_map] at hx
  cases hp : ps[k]? with
  | none => rw [hp] at hx; cases hx
  | some p =>
    rw [hp] at hx
    simp only [Option.map_some, Option.some.injEq] at hx
    subst hx
    obtain ⟨vs, h1, h2, h3⟩ := h.at_ k p hp
    have hr := hall p (List.mem_of_getElem? hp)
    refine ⟨vs, ?_, h2, h3⟩
    obtain ⟨A, cap, hv, hle, hz⟩ := hr.l.ok
    obtain ⟨pA, pcap, hpv, hple, hpz⟩ := hr.p.ok
    rw [h1]
    obtain ⟨x, pw, w⟩ := p
    dsimp only at hv hpv hr ⊢
    subst hv hpv
    exact R.of hr
/-- What a call that lays a policy gives. -/
abbrev Lays (F : Heap) (X : T) (r : AV) (m : List Blk) : Prop := ∃ F' pu u, F.le F' ∧ At F' X pu u ∧ r = .agg (cs X pu u) ∧ m = [hpB F']
theorem got_know {f : FuncId} {args : List AV} {F : Heap} {t : TypeId} {m : List Blk} {X : T} (h : NCall Tryz.prog f args m fun v m' => Got F t X v m') :
    NCall Tryz.prog f args m fun v m' => Lays F X v m' := by
  refine Go.Sx.NCall.know h fun r m' ⟨G, pu, u, ps, hle, hmap, hall, hpr, hr, hm⟩ ⟨w, hw⟩ => ?_
  have hok := ((hm w hw).1.row (List.mem_cons_of_mem _ (List.mem_cons_self ..))).1
  have hrow := rowF_new (F := G) (sz := 8) (enc := psV) hok (psC_den ps) (fun x _ => rfl)
  refine ⟨_, _, hr.symm, hm.trans (MemFits.freeze (m := [])), _, pu, u, hle.trans addF.old, ⟨Pd.Row.mono addF.old hpr, ?_⟩, rfl, rfl⟩
  rw [← hmap]
  exact row_of hrow fun p hp => At.mono addF.old (hall p hp)
end Po
theorem mine27_c : ∀ (n : Nat) (F : Heap) (x : Po.T) (pu u : Value), Po.tot x ≤ n → Po.tot x ≤ 1466015503701 → Po.At F x pu u →
    NCall Tryz.prog 9 [.agg (Po.cs x pu u)] [hpB F] fun r m => Po.Lays F x r m
  | 0, F, x, pu, u, hn, _, _ => absurd (Po.tot_pos x) (by omega)
  | n + 1, F, ⟨k, p, f, v, l⟩, pu, u, hn, hs, hx => by
    refine Po.got_know (t := 38) ?_
    have hu : Po.Row F u l := hx.l
    have hpu : Pd.Row F pu p.l := hx.p
    have hok := hu.ok
    have hpok := hpu.ok
    have e2 := Po.tot_mk k p f v l
    have hll := Po.length_le l
    have ih : ∀ G, ∀ y ∈ l, ∀ pw w, Po.At G y pw w → NCall Tryz.prog 9 [.agg (Po.cs y pw w)] [hpB G] fun r m => Po.Lays G y r m := fun G y hy pw w hw => mine27_c n G y pw w (by have := Po.tot_lt (k := k) (q := p) (f := f) (v := v) hy; omega) (by have := Po.tot_lt (k := k) (q := p) (f := f) (v := v) hy; omega) hw
    have cp := mine26_c _ F p pu (Nat.le_refl _) (by omega) hpu
    have hln : l.length ≤ 1466015503701 := by omega
    clear hx hs hn e2 hll
    rw [po_cs]
    obtain ⟨pk, pf, pv, pl⟩ := p
    simp only [Pd.Lays, pd_cs, Pd.T.k, Pd.T.f, Pd.T.v, Pd.T.l] at *
    refine ncall_of Tryz.func9 rfl (by decide) ?_
    repeat' first|(intro K hK;(with_reducible refine gC ?_);(refine cN [0] cp ?_;rintro _ _ ⟨F1, pu1, hle1, hpu1, rfl, rfl⟩;refine cR ?_))|(refine sxZK [0, 3] ?_;try clear hK K)|refine sxW ?_ ?_<;>intro _|refine sxVK ?_ ?_|(intro K hK _;(conv=>whnf))
    all_goals
      have hpok1 := hpu1.ok
      refine st_auto (α := Heap × Value × List Po.L) (fun (G, w, ps) => F1.le G ∧ ps.map (·.x) = l.take ps.length ∧ ps.length ≤ l.length ∧ ∀ p ∈ ps, Po.At G p.x p.pu p.u) (fun (G, w, ps) => [.keep, .keep, .keep, .keep, .set (.int .i64 ps.length), .keep, .keep, .keep, .keep, .keep, .keep, .keep, .keep, .keep, .keep, .drop, .drop, .drop, .drop, .drop, .drop, .drop, .drop, .drop, .drop, .drop, .drop, .drop, .drop, .drop, .drop, .drop, .drop, .keep])
        (fun (G, w, ps) => [.set (hpB G), .keep, .keep, .cells [.int .i64 k, .int .i64 pk, .int .i64 pf, .int .i64 pv, .hs pu1 pl.length, .int .i64 f, .int .i64 v, .sl 4 w ps.length], .set ⟨addrOf w, Po.psC ps, .row w 38 8 ps.length⟩]) (fun (G, w, ps) => l.length - ps.length) (F1, .slice none 0 0, []) ⟨F1.le_refl, rfl, Nat.zero_le _, fun p hp => by simp at hp⟩ ?_ ((MemFits.nilRow _ 38 8).trans (MemFits.congr rfl)) ?_
      · exact fitsGo
      (intro ⟨G, w, ps⟩ ⟨hle, hmap, hlen, hall⟩; intro K hK; (conv=>whnf); refine hK _ _ ?_; clear hK K)
      dsimp only
      generalize hk : ps.length = i at *
      by_cases hlt : i < l.length
      · have hx : l[i]? = some l[i] := List.getElem?_eq_getElem hlt
        obtain ⟨pA, pcap, A, cap, hA, c0, c1, c2, c3, c4, c5, c6, c7⟩ := (Po.Row.mono (hle1.trans hle) hu).get hx
        have hAo := hA.l.ok
        have hAp := hA.p.ok
        have hmem := List.mem_of_getElem? hx
        have c := ih G _ hmem _ _ hA
        have hnx : l.take (i + 1) = l.take i ++ [l[i]] := by rw [List.take_add_one, hx]; rfl
        clear ih
        generalize l[i] = y at *
        have hpl := Po.psC_len ps
        have hpn := Po.psC_next ps
        generalize hpc : Po.psC ps = pc at *
        obtain ⟨yk, ⟨ypk, ypf, ypv, ypl⟩, yf, yv, yl⟩ := y
        simp only [Po.Lays, Po.cs, Po.T.k, Po.T.p, Po.T.f, Po.T.v, Po.T.l, Pd.T.k, Pd.T.f, Pd.T.v, Pd.T.l] at c c0 c1 c2 c3 c4 c5 c6 c7 hAo hAp
        repeat' first|(intro K hK;(with_reducible refine gC ?_);(refine cN [0] c ?_;rintro _ _ ⟨G', pw', w', hle2, hrow, rfl, rfl⟩;refine cR ?_))|(refine sxO ?_;try clear hK K)|refine sxW ?_ ?_<;>intro _|refine sxV ?_ ?_|(intro K hK _;(conv=>whnf))
        all_goals
          rename_i v9
          refine st_round (G', v9, ps ++ [⟨.mk yk (.mk ypk ypf ypv ypl) yf yv yl, pw', w'⟩]) ⟨hle.trans hle2, by rw [List.map_append, hmap, List.length_append, hk]; exact hnx.symm, by rw [List.length_append, hk]; exact hlt, fun x hx => ?_⟩ (by rw [List.length_append, hk]; show l.length - (i + 1) < l.length - i; omega) ?_ (MemFits.pre 5 ?_)
          · rcases List.mem_append.1 hx with hx | hx
            · exact Po.At.mono hle2 (hall x hx)
            · rw [List.mem_singleton.1 hx]; exact hrow
          · simp only [List.length_append, hk]
            exact fitsGo
          · simp only [autoM, List.take, List.length_append, hk, hpn]
            rw [show i + [(⟨.mk yk (.mk ypk ypf ypv ypl) yf yv yl, pw', w'⟩ : Po.L)].length = i + 1 from rfl]
            rfl
      · have hkl : i = l.length := by omega
        subst hkl
        clear ih cp
        repeat' first|(refine sxZ ?_;try clear hK K)|refine sxW ?_ ?_<;>intro _|(intro K hK _;(conv=>whnf))
        all_goals exact ⟨G, pu1, w, ps, hle1.trans hle, by rw [hmap, List.take_length]; rfl, hall, Pd.Row.mono hle hpu1, rfl, by rw [hk]; exact MemFits.pick [0, 4] (by decide) rfl⟩
theorem theirs27_c : ∀ (n : Nat) (F : Heap) (x : Po.T) (pu u : Value), Po.tot x ≤ n → Po.tot x ≤ 1466015503701 → Po.At F x pu u →
    NCall Tryz.prog 11 [.agg (Po.cs x pu u)] [hpB F] fun r m => Po.Lays F x r m
  | 0, F, x, pu, u, hn, _, _ => absurd (Po.tot_pos x) (by omega)
  | n + 1, F, ⟨k, p, f, v, l⟩, pu, u, hn, hs, hx => by
    refine Po.got_know (t := 27) ?_
    have hu : Po.Row F u l := hx.l
    have hpu : Pd.Row F pu p.l := hx.p
    have hok := hu.ok
    have hpok := hpu.ok
    have e2 := Po.tot_mk k p f v l
    have hll := Po.length_le l
    have ih : ∀ G, ∀ y ∈ l, ∀ pw w, Po.At G y pw w → NCall Tryz.prog 11 [.agg (Po.cs y pw w)] [hpB G] fun r m => Po.Lays G y r m := fun G y hy pw w hw => theirs27_c n G y pw w (by have := Po.tot_lt (k := k) (q := p) (f := f) (v := v) hy; omega) (by have := Po.tot_lt (k := k) (q := p) (f := f) (v := v) hy; omega) hw
    have cp := theirs26_c _ F p pu (Nat.le_refl _) (by omega) hpu
    have hln : l.length ≤ 1466015503701 := by omega
    clear hx hs hn e2 hll
    rw [po_cs]
    obtain ⟨pk, pf, pv, pl⟩ := p
    simp only [Pd.Lays, pd_cs, Pd.T.k, Pd.T.f, Pd.T.v, Pd.T.l] at *
    refine ncall_of Tryz.func11 rfl (by decide) ?_
    repeat' first|(intro K hK;(with_reducible refine gC ?_);(refine cN [0] cp ?_;rintro _ _ ⟨F1, pu1, hle1, hpu1, rfl, rfl⟩;refine cR ?_))|(refine sxZK [0, 3] ?_;try clear hK K)|refine sxW ?_ ?_<;>intro _|refine sxVK ?_ ?_|(intro K hK _;(conv=>whnf))
    all_goals
      have hpok1 := hpu1.ok
      refine st_auto (α := Heap × Value × List Po.L) (fun (G, w, ps) => F1.le G ∧ ps.map (·.x) = l.take ps.length ∧ ps.length ≤ l.length ∧ ∀ p ∈ ps, Po.At G p.x p.pu p.u) (fun (G, w, ps) => [.keep, .keep, .keep, .keep, .set (.int .i64 ps.length), .keep, .keep, .keep, .keep, .keep, .keep, .keep, .keep, .keep, .keep, .drop, .drop, .drop, .drop, .drop, .drop, .drop, .drop, .drop, .drop, .drop, .drop, .drop, .drop, .drop, .drop, .drop, .drop, .keep])
        (fun (G, w, ps) => [.set (hpB G), .keep, .keep, .cells [.int .i64 k, .int .i64 pk, .int .i64 pf, .int .i64 pv, .hs pu1 pl.length, .int .i64 f, .int .i64 v, .sl 4 w ps.length], .set ⟨addrOf w, Po.psC ps, .row w 27 8 ps.length⟩]) (fun (G, w, ps) => l.length - ps.length) (F1, .slice none 0 0, []) ⟨F1.le_refl, rfl, Nat.zero_le _, fun p hp => by simp at hp⟩ ?_ ((MemFits.nilRow _ 27 8).trans (MemFits.congr rfl)) ?_
      · exact fitsGo
      (intro ⟨G, w, ps⟩ ⟨hle, hmap, hlen, hall⟩; intro K hK; (conv=>whnf); refine hK _ _ ?_; clear hK K)
      dsimp only
      generalize hk : ps.length = i at *
      by_cases hlt : i < l.length
      · have hx : l[i]? = some l[i] := List.getElem?_eq_getElem hlt
        obtain ⟨pA, pcap, A, cap, hA, c0, c1, c2, c3, c4, c5, c6, c7⟩ := (Po.Row.mono (hle1.trans hle) hu).get hx
        have hAo := hA.l.ok
        have hAp := hA.p.ok
        have hmem := List.mem_of_getElem? hx
        have c := ih G _ hmem _ _ hA
        have hnx : l.take (i + 1) = l.take i ++ [l[i]] := by rw [List.take_add_one, hx]; rfl
        clear ih
        generalize l[i] = y at *
        have hpl := Po.psC_len ps
        have hpn := Po.psC_next ps
        generalize hpc : Po.psC ps = pc at *
        obtain ⟨yk, ⟨ypk, ypf, ypv, ypl⟩, yf, yv, yl⟩ := y
        simp only [Po.Lays, Po.cs, Po.T.k, Po.T.p, Po.T.f, Po.T.v, Po.T.l, Pd.T.k, Pd.T.f, Pd.T.v, Pd.T.l] at c c0 c1 c2 c3 c4 c5 c6 c7 hAo hAp
        repeat' first|(intro K hK;(with_reducible refine gC ?_);(refine cN [0] c ?_;rintro _ _ ⟨G', pw', w', hle2, hrow, rfl, rfl⟩;refine cR ?_))|(refine sxO ?_;try clear hK K)|refine sxW ?_ ?_<;>intro _|refine sxV ?_ ?_|(intro K hK _;(conv=>whnf))
        all_goals
          rename_i v9
          refine st_round (G', v9, ps ++ [⟨.mk yk (.mk ypk ypf ypv ypl) yf yv yl, pw', w'⟩]) ⟨hle.trans hle2, by rw [List.map_append, hmap, List.length_append, hk]; exact hnx.symm, by rw [List.length_append, hk]; exact hlt, fun x hx => ?_⟩ (by rw [List.length_append, hk]; show l.length - (i + 1) < l.length - i; omega) ?_ (MemFits.pre 5 ?_)
          · rcases List.mem_append.1 hx with hx | hx
            · exact Po.At.mono hle2 (hall x hx)
            · rw [List.mem_singleton.1 hx]; exact hrow
          · simp only [List.length_append, hk]
            exact fitsGo
          · simp only [autoM, List.take, List.length_append, hk, hpn]
            rw [show i + [(⟨.mk yk (.mk ypk ypf ypv ypl) yf yv yl, pw', w'⟩ : Po.L)].length = i + 1 from rfl]
            rfl
      · have hkl : i = l.length := by omega
        subst hkl
        clear ih cp
        repeat' first|(refine sxZ ?_;try clear hK K)|refine sxW ?_ ?_<;>intro _|(intro K hK _;(conv=>whnf))
        all_goals exact ⟨G, pu1, w, ps, hle1.trans hle, by rw [hmap, List.take_length]; rfl, hall, Pd.Row.mono hle hpu1, rfl, by rw [hk]; exact MemFits.pick [0, 4] (by decide) rfl⟩
end Go.Proofs.YtngodakgbldlpaaGreatDoor


