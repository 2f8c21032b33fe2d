/-
  Policies: rows of them that grow; the law's own turning of one into the other; is a field asked for, or set to, a number. (Printed by gen_po8.py.)
-/
import Derived.Test.YtpkjnmddembkjaaGreatDoorPo7p
import Derived.Test.YtpkjnmddembkjaaGreatDoorPo2
import Derived.Test.YtpkjnmddembkjaaGreatDoorPd16
namespace Go.Proofs.YtpkjnmddembkjaaGreatDoor
open Go.Sx
set_option maxRecDepth 20000
set_option linter.unusedSimpArgs false
set_option linter.unusedVariables false
set_option maxHeartbeats 4000000
set_option linter.unusedVariables false
namespace Po
/-- A policy, with the slices in which its parts lie. -/
structure L where
  x : T
  pu : Value
  u : Value
def psC (ps : List L) : List AV := ps.flatMap fun p => cs p.x p.pu p.u
def psV (p : L) : List Value := denL (cs p.x p.pu p.u)
theorem psC_den : ∀ ps, denL (psC ps) = ps.flatMap psV
  | [] => rfl
  | p :: ps => by
    have := psC_den ps
    unfold psC at *
    rw [List.flatMap_cons, List.flatMap_cons, denL_append, this]
    rfl
theorem psC_len (ps : List L) : (psC ps).length = ps.length * 8 := by
  induction ps with
  | nil => rfl
  | cons p ps ih =>
    unfold psC at *
    rw [List.flatMap_cons, List.length_append, ih, List.length_cons]
    show 8 + _ = _
    omega
theorem psC_next (ps : List L) (p : L) : psC (ps ++ [p]) = psC ps ++ cs p.x p.pu p.u := by
  unfold psC
  rw [List.flatMap_append]
  simp
/-- What is made stands for a policy. -/
def Got (F : Heap) (t : TypeId) (X : T) (v : AV) (m : List Blk) : Prop :=
  ∃ G pu u, ∃ ps : List L, F.le G ∧ ps.map (·.x) = X.l ∧ (∀ p ∈ ps, At G p.x p.pu p.u) ∧ Pd.Row G pu X.p.l ∧ v.den = (AV.agg (cs X pu u)).den ∧ MemFits m [hpB G, ⟨addrOf u, psC ps, .row u t 8 ps.length⟩]
theorem row_of {G : Heap} {u : Value} {ps : List L} (h : RowF G 8 (fun p vs => vs = psV p) u ps) (hall : ∀ p ∈ ps, At G p.x p.pu p.u) : Row G u (ps.map (·.x)) := by
  refine ⟨by rw [List.length_map]; exact h.ok, fun k x hx => ?_⟩
  rw [List.getElem?_map] at hx
  cases hp : ps[k]? with
  | none => rw [hp] at hx; cases hx
  | some p =>
    rw [hp] at hx
    simp only [Option.map_some, Option.some.injEq] at hx
    subst hx
    obtain ⟨vs, h1, h2, h3⟩ := h.at_ k p hp
    have hr := hall p (List.mem_of_getElem? hp)
    refine ⟨vs, ?_, h2, h3⟩
    obtain ⟨A, cap, hv, hle, hz⟩ := hr.l.ok
    obtain ⟨pA, pcap, hpv, hple, hpz⟩ := hr.p.ok
    rw [h1]
    obtain ⟨x, pw, w⟩ := p
    dsimp only at hv hpv hr ⊢
    subst hv hpv
    exact R.of hr
/-- What a call that lays a policy gives. -/
abbrev Lays (F : Heap) (X : T) (r : AV) (m : List Blk) : Prop := ∃ F' pu u, F.le F' ∧ At F' X pu u ∧ r = .agg (cs X pu u) ∧ m = [hpB F']
theorem got_know {f : FuncId} {args : List AV} {F : Heap} {t : TypeId} {m : List Blk} {X : T} (h : NCall Tryz.prog f args m fun v m' => Got F t X v m') :
    NCall Tryz.prog f args m fun v m' => Lays F X v m' := by
  refine Go.Sx.NCall.know h fun r m' ⟨G, pu, u, ps, hle, hmap, hall, hpr, hr, hm⟩ ⟨w, hw⟩ => ?_
  have hok := ((hm w hw).1.row (List.mem_cons_of_mem _ (List.mem_cons_self ..))).1
  have hrow := rowF_new (F := G) (sz := 8) (enc := psV) hok (psC_den ps) (fun x _ => rfl)
  refine ⟨_, _, hr.symm, hm.trans (MemFits.freeze (m := [])), _, pu, u, hle.trans addF.old, ⟨Pd.Row.mono addF.old hpr, ?_⟩, rfl, rfl⟩
  rw [← hmap]
  exact row_of hrow fun p hp => At.mono addF.old (hall p hp)
end Po
end Go.Proofs.YtpkjnmddembkjaaGreatDoor

