/-
  Conditions: rows of them that grow; the law's own turning of one into the other.
-/
import Derived.Test.YtngodakgbldlpaaGreatDoorTJ2
import Derived.Test.YtngodakgbldlpaaGreatDoorTPd3
namespace Go.Proofs.YtngodakgbldlpaaGreatDoor
open Go.Sx
set_option maxRecDepth 20000
set_option linter.unusedSimpArgs false
set_option linter.unusedVariables false
set_option maxHeartbeats 4000000
set_option linter.unusedVariables false
namespace Pd
/-- Conditions, each with the slice in which those within it lie: their cells. -/
def psC (ps : List (T × Value)) : List AV := ps.flatMap fun p => cs p.1 p.2
def psV (p : T × Value) : List Value := denL (cs p.1 p.2)
theorem psC_den : ∀ ps, denL (psC ps) = ps.flatMap psV
  | [] => rfl
  | p :: ps => by
    have := psC_den ps
    unfold psC at *
    rw [List.flatMap_cons, List.flatMap_cons, denL_append, this]
    rfl
theorem psC_len (ps : List (T × Value)) : (psC ps).length = ps.length * 4 := by
  induction ps with
  | nil => rfl
  | cons p ps ih =>
    unfold psC at *
    rw [List.flatMap_cons, List.length_append, ih, List.length_cons]
    show 4 + _ = _
    omega
theorem psC_next (ps : List (T × Value)) (p : T × Value) : psC (ps ++ [p]) = psC ps ++ cs p.1 p.2 := by
  unfold psC
  rw [List.flatMap_append]
  simp
/-- What is made stands for a condition. -/
def Got (F : Heap) (t : TypeId) (X : T) (v : AV) (m : List Blk) : Prop :=
  ∃ G u, ∃ ps : List (T × Value), F.le G ∧ ps.map (·.1) = X.l ∧ (∀ p ∈ ps, Row G p.2 p.1.l) ∧ v.den = (AV.agg (cs X u)).den ∧ MemFits m [hpB G, ⟨addrOf u, psC ps, .row u t 4 ps.length⟩]
theorem row_of {G : Heap} {u : Value} {ps : List (T × Value)} (h : RowF G 4 (fun p vs => vs = psV p) u ps) (hall : ∀ p ∈ ps, Row G p.2 p.1.l) : Row G u (ps.map (·.1)) := by
  refine ⟨by rw [List.length_map]; exact h.ok, fun k x hx => ?_⟩
  rw [List.getElem?_map] at hx
  cases hp : ps[k]? with
  | none => rw [hp] at hx; cases hx
  | some p =>
    rw [hp] at hx
    simp only [Option.map_some, Option.some.injEq] at hx
    subst hx
    obtain ⟨vs, h1, h2, h3⟩ := h.at_ k p hp
    have hr := hall p (List.mem_of_getElem? hp)
    refine ⟨vs, ?_, h2, h3⟩
    obtain ⟨A, cap, hv, hle, hz⟩ := hr.ok
    rw [h1]
    obtain ⟨x, w⟩ := p
    dsimp only at hv hr ⊢
    subst hv
    exact R.of hr
theorem got_know {f : FuncId} {args : List AV} {F : Heap} {t : TypeId} {m : List Blk} {X : T} (h : NCall Tryz.prog f args m fun v m' => Got F t X v m') :
    NCall Tryz.prog f args m fun v m' => ∃ F' u, F.le F' ∧ Row F' u X.l ∧ v = .agg (cs X u) ∧ m' = [hpB F'] := by
  refine Go.Sx.NCall.know h fun r m' ⟨G, u, ps, hle, hmap, hall, hr, hm⟩ ⟨w, hw⟩ => ?_
  have hok := ((hm w hw).1.row (List.mem_cons_of_mem _ (List.mem_cons_self ..))).1
  have hrow := rowF_new (F := G) (sz := 4) (enc := psV) hok (psC_den ps) (fun x _ => rfl)
  refine ⟨_, _, hr.symm, hm.trans (MemFits.freeze (m := [])), _, u, hle.trans addF.old, ?_, rfl, rfl⟩
  rw [← hmap]
  exact row_of hrow fun p hp => Row.mono addF.old (hall p hp)
/-- What a call that lays conditions gives. -/
abbrev Lays (F : Heap) (X : T) (r : AV) (m : List Blk) : Prop := ∃ F' u, F.le F' ∧ Row F' u X.l ∧ r = .agg (cs X u) ∧ m = [hpB F']
end Pd
theorem mine26_c : ∀ (n : Nat) (F : Heap) (p : Pd.T) (u : Value), Pd.size p ≤ n → Pd.size p ≤ 2932031007402 → Pd.Row F u p.l →
    NCall Tryz.prog 10 [.agg (Pd.cs p u)] [hpB F] fun r m => Pd.Lays F p r m
  | 0, F, p, u, hn, _, _ => absurd (Pd.size_pos p) (by omega)
  | n + 1, F, ⟨k, f, v, l⟩, u, hn, hs, hu => by
    refine Pd.got_know (t := 35) ?_
    have hu : Pd.Row F u l := hu
    have hok := hu.ok
    have e2 : Pd.size (.mk k f v l) = 1 + Pd.sizeL l := by rw [Pd.size]
    have hll := Pd.length_le l
    have ih : ∀ G, ∀ x ∈ l, ∀ w, Pd.Row G w x.l → NCall Tryz.prog 10 [.agg (Pd.cs x w)] [hpB G] fun r m => Pd.Lays G x r m := fun G x hx w hw => mine26_c n G x w (by have := Pd.size_lt (k := k) (f := f) (v := v) hx; omega) (by have := Pd.size_lt (k := k) (f := f) (v := v) hx; omega) hw
    refine ncall_of Tryz.func10 rfl (by decide) ?_
    rw [pd_cs]
    repeat' first|(refine sxZ ?_;try clear hK K)|refine sxW ?_ ?_<;>intro _|(intro K hK _;(conv=>whnf))
    refine st_auto (α := Heap × Value × List (Pd.T × Value)) (fun (G, w, ps) => F.le G ∧ ps.map (·.1) = l.take ps.length ∧ ps.length ≤ l.length ∧ ∀ p ∈ ps, Pd.Row G p.2 p.1.l) (fun (G, w, ps) => [.keep, .keep, .keep, .keep, .set (.int .i64 ps.length), .keep, .keep, .keep, .keep, .keep, .keep, .keep, .drop, .drop, .drop, .drop, .drop, .drop, .drop, .drop, .drop, .drop, .drop, .drop, .drop, .drop, .drop, .drop, .drop, .drop, .keep])
      (fun (G, w, ps) => [.set (hpB G), .keep, .keep, .cells [.int .i64 k, .int .i64 f, .int .i64 v, .sl 4 w ps.length], .set ⟨addrOf w, Pd.psC ps, .row w 35 4 ps.length⟩]) (fun (G, w, ps) => l.length - ps.length) (F, .slice none 0 0, []) ⟨F.le_refl, rfl, Nat.zero_le _, fun p hp => by simp at hp⟩ ?_ ((MemFits.nilRow _ 35 4).trans (MemFits.congr rfl)) ?_
    · exact fitsGo
    (intro ⟨G, w, ps⟩ ⟨hle, hmap, hlen, hall⟩; intro K hK; (conv=>whnf); refine hK _ _ ?_; clear hK K)
    dsimp only
    generalize hk : ps.length = i at *
    by_cases hlt : i < l.length
    · have hx : l[i]? = some l[i] := List.getElem?_eq_getElem hlt
      obtain ⟨A, cap, hA, c0, c1, c2, c3⟩ := (Pd.Row.mono hle hu).get hx
      have hmem := List.mem_of_getElem? hx
      have c := ih G _ hmem _ hA
      have hnx : l.take (i + 1) = l.take i ++ [l[i]] := by rw [List.take_add_one, hx]; rfl
      clear ih
      generalize l[i] = x at *
      have hpl := Pd.psC_len ps
      have hpn := Pd.psC_next ps
      generalize hpc : Pd.psC ps = pc at *
      obtain ⟨xk, xf, xv, xl⟩ := x
      simp only [Pd.Lays, Pd.cs, Pd.T.k, Pd.T.f, Pd.T.v, Pd.T.l] at c c0 c1 c2 c3 hA
      repeat' first|(intro K hK;(with_reducible refine gC ?_);(refine cN [0] c ?_;rintro _ _ ⟨G', w', hle2, hrow, rfl, rfl⟩;refine cR ?_))|(refine sxO ?_;try clear hK K)|refine sxW ?_ ?_<;>intro _|refine sxV ?_ ?_|(intro K hK _;(conv=>whnf))
      all_goals
        rename_i v9
        refine st_round (G', v9, ps ++ [(⟨xk, xf, xv, xl⟩, w')]) ⟨hle.trans hle2, by rw [List.map_append, hmap, List.length_append, hk]; exact hnx.symm, by rw [List.length_append, hk]; exact hlt, fun x hx => ?_⟩ (by rw [List.length_append, hk]; show l.length - (i + 1) < l.length - i; omega) ?_ (MemFits.pre 5 ?_)
        · rcases List.mem_append.1 hx with hx | hx
          · exact Pd.Row.mono hle2 (hall x hx)
          · rw [List.mem_singleton.1 hx]; exact hrow
        · simp only [List.length_append, hk]
          exact fitsGo
        · simp only [autoM, List.take, List.length_append, hk, hpn]
          rw [show i + [((⟨xk, xf, xv, xl⟩ : Pd.T), w')].length = i + 1 from rfl]
          rfl
    · have hkl : i = l.length := by omega
      subst hkl
      repeat' first|(refine sxZ ?_;try clear hK K)|refine sxW ?_ ?_<;>intro _|(intro K hK _;(conv=>whnf))
      all_goals exact ⟨G, w, ps, hle, by rw [hmap, List.take_length]; rfl, hall, rfl, by rw [hk]; exact MemFits.pick [0, 4] (by decide) rfl⟩
theorem theirs26_c : ∀ (n : Nat) (F : Heap) (p : Pd.T) (u : Value), Pd.size p ≤ n → Pd.size p ≤ 2932031007402 → Pd.Row F u p.l →
    NCall Tryz.prog 34 [.agg (Pd.cs p u)] [hpB F] fun r m => Pd.Lays F p r m
  | 0, F, p, u, hn, _, _ => absurd (Pd.size_pos p) (by omega)
  | n + 1, F, ⟨k, f, v, l⟩, u, hn, hs, hu => by
    refine Pd.got_know (t := 24) ?_
    have hu : Pd.Row F u l := hu
    have hok := hu.ok
    have e2 : Pd.size (.mk k f v l) = 1 + Pd.sizeL l := by rw [Pd.size]
    have hll := Pd.length_le l
    have ih : ∀ G, ∀ x ∈ l, ∀ w, Pd.Row G w x.l → NCall Tryz.prog 34 [.agg (Pd.cs x w)] [hpB G] fun r m => Pd.Lays G x r m := fun G x hx w hw => theirs26_c n G x w (by have := Pd.size_lt (k := k) (f := f) (v := v) hx; omega) (by have := Pd.size_lt (k := k) (f := f) (v := v) hx; omega) hw
    refine ncall_of Tryz.func34 rfl (by decide) ?_
    rw [pd_cs]
    repeat' first|(refine sxZ ?_;try clear hK K)|refine sxW ?_ ?_<;>intro _|(intro K hK _;(conv=>whnf))
    refine st_auto (α := Heap × Value × List (Pd.T × Value)) (fun (G, w, ps) => F.le G ∧ ps.map (·.1) = l.take ps.length ∧ ps.length ≤ l.length ∧ ∀ p ∈ ps, Pd.Row G p.2 p.1.l) (fun (G, w, ps) => [.keep, .keep, .keep, .keep, .set (.int .i64 ps.length), .keep, .keep, .keep, .keep, .keep, .keep, .keep, .drop, .drop, .drop, .drop, .drop, .drop, .drop, .drop, .drop, .drop, .drop, .drop, .drop, .drop, .drop, .drop, .drop, .drop, .keep])
      (fun (G, w, ps) => [.set (hpB G), .keep, .keep, .cells [.int .i64 k, .int .i64 f, .int .i64 v, .sl 4 w ps.length], .set ⟨addrOf w, Pd.psC ps, .row w 24 4 ps.length⟩]) (fun (G, w, ps) => l.length - ps.length) (F, .slice none 0 0, []) ⟨F.le_refl, rfl, Nat.zero_le _, fun p hp => by simp at hp⟩ ?_ ((MemFits.nilRow _ 24 4).trans (MemFits.congr rfl)) ?_
    · exact fitsGo
    (intro ⟨G, w, ps⟩ ⟨hle, hmap, hlen, hall⟩; intro K hK; (conv=>whnf); refine hK _ _ ?_; clear hK K)
    dsimp only
    generalize hk : ps.length = i at *
    by_cases hlt : i < l.length
    · have hx : l[i]? = some l[i] := List.getElem?_eq_getElem hlt
      obtain ⟨A, cap, hA, c0, c1, c2, c3⟩ := (Pd.Row.mono hle hu).get hx
      have hmem := List.mem_of_getElem? hx
      have c := ih G _ hmem _ hA
      have hnx : l.take (i + 1) = l.take i ++ [l[i]] := by rw [List.take_add_one, hx]; rfl
      clear ih
      generalize l[i] = x at *
      have hpl := Pd.psC_len ps
      have hpn := Pd.psC_next ps
      generalize hpc : Pd.psC ps = pc at *
      obtain ⟨xk, xf, xv, xl⟩ := x
      simp only [Pd.Lays, Pd.cs, Pd.T.k, Pd.T.f, Pd.T.v, Pd.T.l] at c c0 c1 c2 c3 hA
      repeat' first|(intro K hK;(with_reducible refine gC ?_);(refine cN [0] c ?_;rintro _ _ ⟨G', w', hle2, hrow, rfl, rfl⟩;refine cR ?_))|(refine sxO ?_;try clear hK K)|refine sxW ?_ ?_<;>intro _|refine sxV ?_ ?_|(intro K hK _;(conv=>whnf))
      all_goals
        rename_i v9
        refine st_round (G', v9, ps ++ [(⟨xk, xf, xv, xl⟩, w')]) ⟨hle.trans hle2, by rw [List.map_append, hmap, List.length_append, hk]; exact hnx.symm, by rw [List.length_append, hk]; exact hlt, fun x hx => ?_⟩ (by rw [List.length_append, hk]; show l.length - (i + 1) < l.length - i; omega) ?_ (MemFits.pre 5 ?_)
        · rcases List.mem_append.1 hx with hx | hx
          · exact Pd.Row.mono hle2 (hall x hx)
          · rw [List.mem_singleton.1 hx]; exact hrow
        · simp only [List.length_append, hk]
          exact fitsGo
        · simp only [autoM, List.take, List.length_append, hk, hpn]
          rw [show i + [((⟨xk, xf, xv, xl⟩ : Pd.T), w')].length = i + 1 from rfl]
          rfl
    · have hkl : i = l.length := by omega
      subst hkl
      repeat' first|(refine sxZ ?_;try clear hK K)|refine sxW ?_ ?_<;>intro _|(intro K hK _;(conv=>whnf))
      all_goals exact ⟨G, w, ps, hle, by rw [hmap, List.take_length]; rfl, hall, rfl, by rw [hk]; exact MemFits.pick [0, 4] (by decide) rfl⟩
end Go.Proofs.YtngodakgbldlpaaGreatDoor


