/-
  Conditions: the numbers with which a field is asked, by the program; What comes of a packet, laid into a map: by the program.
-/
import Derived.Test.YtngodakgbldlpaaGreatDoorTJ2
import Derived.Test.YtngodakgbldlpaaGreatDoorTPd12
import Derived.Test.YtngodakgbldlpaaGreatDoorTPd9
import Derived.Test.YtngodakgbldlpaaGreatDoorTPo13
import Derived.Test.YtngodakgbldlpaaGreatDoorTJ3
import Derived.Test.YtngodakgbldlpaaGreatDoorTPo2
import Derived.Test.YtngodakgbldlpaaGreatDoorTJ9
namespace Go.Sx
end Go.Sx
namespace Go.Proofs.YtngodakgbldlpaaGreatDoor
open Go.Sx
set_option maxRecDepth 20000
set_option linter.unusedSimpArgs false
set_option linter.unusedVariables false
set_option maxHeartbeats 4000000
set_option linter.unusedVariables false
namespace Pd
end Pd
theorem Hits26_c (F : Heap) (x : Pd.At) (p : Pd.T) (u : Value) (hs : Pd.size p ≤ 4611686018427387904) (hu : Pd.Row F u p.l) :
    NCall Tryz.prog 61 [.agg (Pd.cs p u), .int .i64 x.sw, .int .i64 x.port, .agg x.pk] [hpB F] fun r m => r = .bool (Pd.hits x p) ∧ m = [hpB F] := by
  refine NCall.fits (K := fun r m => r = .bool (Pd.hits x p) ∧ MemFits m [hpB F]) ?_ fun r m' h => ⟨r, _, rfl, h.2, h.1, rfl⟩
  have c := hits26_c _ F x p u (Nat.le_refl _) hs hu
  generalize Pd.hits x p = hb at *
  have hok := hu.ok
  clear hs hu
  obtain ⟨k, f, v, l⟩ := p
  obtain ⟨sw, port, p0, p1, p2, p3⟩ := x
  simp only [Pd.At.av, Pd.At.pk, pd_cs, Pd.T.l] at *
  refine ncall_of Tryz.func61 rfl (by decide) ?_
  repeat' first|(intro K hK;(with_reducible refine gC ?_);refine cS [0] c ?_)|(refine sxZ ?_;try clear hK K)|refine sxW ?_ ?_<;>intro _|(intro K hK _;(conv=>whnf))
  all_goals exact ⟨rfl, MemFits.pre 1 rfl⟩
end Go.Proofs.YtngodakgbldlpaaGreatDoor
namespace Go.Proofs.YtngodakgbldlpaaGreatDoor
open Go.Sx
set_option maxRecDepth 20000
set_option linter.unusedSimpArgs false
set_option linter.unusedVariables false
set_option maxHeartbeats 4000000
set_option linter.unusedVariables false
namespace Po
/-- The keys of a map of packets. -/
def sM (L : List S) : List (Value × Value) := L.map fun t => (t.key, .agg #[])
def add (L : List S) (s : S) : List S := if s ∈ L then L else L ++ [s]
def okS (v : Value) : Prop := ∃ l : List Int, l.length = 5 ∧ v = intsV l
theorem S.key_ok (s : S) : okS s.key := ⟨[s.port, s.p0, s.p1, s.p2, s.p3], rfl, rfl⟩
theorem sM_ok {L : List S} : ∀ q ∈ sM L, okS q.1 := fun q hq => by
  obtain ⟨x, _, rfl⟩ := List.mem_map.1 hq
  exact x.key_ok
theorem sM_no {L : List S} {s : S} (h : s ∉ L) : ∀ q ∈ sM L, q.1 ≠ s.key := fun q hq e => by
  obtain ⟨y, hy, rfl⟩ := List.mem_map.1 hq
  exact h (S.key_inj e ▸ hy)
theorem sM_at {L : List S} {s : S} (h : s ∈ L) : ∃ i, FirstIs (sM L) s.key (some (i, .agg #[])) ∧ (sM L).set i (s.key, .agg #[]) = sM L := by
  induction L with
  | nil => cases h
  | cons x L ih =>
    by_cases hx : x = s
    · subst hx
      exact ⟨0, ⟨rfl, fun j q hj _ => absurd hj (Nat.not_lt_zero _)⟩, rfl⟩
    · obtain ⟨i, ⟨h1, h2⟩, h3⟩ := ih ((List.mem_cons.1 h).resolve_left fun e => hx e.symm)
      refine ⟨i + 1, ⟨by simpa [sM] using h1, fun j q hj hq => ?_⟩, by simp only [sM, List.map_cons, List.set_cons_succ]; congr 1⟩
      cases j with
      | zero =>
        simp only [sM, List.map_cons, List.getElem?_cons_zero, Option.some.injEq] at hq
        subst hq
        exact fun e => hx (S.key_inj e)
      | succ j => exact h2 j q (by omega) (by simpa [sM] using hq)
theorem add_nodup {L : List S} (h : L.Nodup) (s : S) : (add L s).Nodup := by
  unfold add
  split
  · exact h
  · rename_i hn
    rw [List.nodup_append]
    refine ⟨h, by simp, fun a ha b hb e => ?_⟩
    rw [List.mem_singleton.1 hb] at e
    exact hn (e ▸ ha)
theorem mem_add {L : List S} {s t : S} : t ∈ add L s ↔ t ∈ L ∨ t = s := by
  unfold add
  split
  · rename_i h
    exact ⟨.inl, fun e => e.elim id fun e => e ▸ h⟩
  · simp
end Po
theorem sentT : KeyT Tryz.prog 63 Po.okS := KeyT.ints (by kernel_rfl) (by kernel_rfl) (by kernel_rfl)
section
variable {t : TypeId} {m : List Blk} {K : AV → List Blk → Prop} {b j : Nat} {L : List Po.S}
theorem sent_upd {s : Po.S} {k v : AV} (hu : Tryz.prog.underlying t = some (.map 63 71)) (hj : m[j]? = some (mapB b (Po.sM L))) (hk : k.den = s.key) (hv : v.den = .agg #[]) (hK : setBlkK m j (mapB b (Po.sM (Po.add L s))) (K (.raw undef))) :
    NMap Tryz.prog (do Instr.mapUpdate t (AV.raw (Value.map (some b))).den k.den v.den; pure undef) m K := by
  rw [hk, hv, show (AV.raw (Value.map (some b))).den = .map (some b) by rw [AV.den]]
  by_cases hs : s ∈ L
  · obtain ⟨i, h1, h2⟩ := Po.sM_at hs
    refine NMap.upd_old hu sentT hj Po.sM_ok s.key_ok h1 ?_
    rw [h2]
    rw [show Po.add L s = L from if_pos hs] at hK
    exact hK
  · refine NMap.upd_new hu sentT hj Po.sM_ok s.key_ok (Po.sM_no hs) ?_
    rw [show Po.add L s = L ++ [s] from if_neg hs] at hK
    unfold Po.sM at hK ⊢
    rw [List.map_append] at hK
    exact hK
end
def Po.doneR (F : Heap) (b : Nat) (L : List Po.S) (R : Po.S → Prop) (r : AV) (m : List Blk) : Prop := ∃ L' : List Po.S, L'.Nodup ∧ (∀ t, t ∈ L' ↔ t ∈ L ∨ R t) ∧ r = .tup [] ∧ m = [hpB F, mapB b (Po.sM L')]
theorem run27_1 (F : Heap) (p : Pd.T) (pu u : Value) (sw : Int) (hs : Pd.size p ≤ 4611686018427387904) (hx : Po.At F (.mk 1 p 0 0 []) pu u) (s : Po.S) (b : Nat) (L : List Po.S) (hL : L.Nodup) :
    NCall Tryz.prog 35 [.raw (.map (some b)), .agg (Po.cs (.mk 1 p 0 0 []) pu u), .int .i64 sw, .agg s.av] [hpB F, mapB b (Po.sM L)] fun r m => Po.doneR F b L (fun t => t ∈ Po.runs sw (.mk 1 p 0 0 []) s) r m := by
  refine NCall.fits (K := fun r m => ∃ L' : List Po.S, L'.Nodup ∧ (∀ t, t ∈ L' ↔ t ∈ L ∨ t ∈ Po.runs sw (.mk 1 p 0 0 []) s) ∧ r = .tup [] ∧ MemFits m [hpB F, mapB b (Po.sM L')]) ?_ fun r m' ⟨L', h1, h2, h3, h4⟩ => ⟨r, _, rfl, h4, L', h1, h2, h3, rfl⟩
  have hok := hx.l.ok
  have hpok := hx.p.ok
  have ch := Hits26_c F (s.at_ sw) p pu hs hx.p
  have hr := Po.runs_mk sw 1 p 0 0 [] s
  rw [if_pos rfl] at hr
  have hu : Tryz.prog.underlying 65 = some (.map 63 71) := by kernel_rfl
  have hadd := Po.add_nodup hL s
  have hmem := fun t => Po.mem_add (L := L) (s := s) (t := t)
  rw [hr]
  clear hr hx
  rw [po_cs]
  generalize Pd.hits (s.at_ sw) p = hb at *
  obtain ⟨pk, pf, pv, pl⟩ := p
  have hkey : (AV.agg s.av).den = s.key := rfl
  obtain ⟨a0, a, b', c, d⟩ := s
  simp only [pd_cs, Pd.T.k, Pd.T.f, Pd.T.v, Pd.T.l, Po.S.av, Po.S.at_, Pd.At.pk] at *
  refine ncall_of Tryz.func35 rfl (by decide) ?_
  cases hb with
  | false =>
    repeat' first|(intro K hK;(with_reducible refine gC ?_);refine cS [0] ch ?_)|(refine sxZ ?_;try clear hK K)|refine sxW ?_ ?_<;>intro _|(intro K hK _;(conv=>whnf))
    all_goals exact ⟨L, hL, fun t => by simp, rfl, MemFits.pre 2 rfl⟩
  | true =>
    repeat' first|((try intro K hK);(with_reducible refine gC ?_);refine cS [0] ch ?_)|((try intro K hK);((with_reducible refine gMap ?_); refine sent_upd (j := 1) hu rfl hkey rfl ?_; conv=>whnf))|(refine sxZ ?_;try clear hK K)|refine sxW ?_ ?_<;>intro _|(intro K hK _;(conv=>whnf))|(intro _;(conv=>whnf))
    all_goals exact ⟨_, hadd, fun t => by rw [hmem]; simp, rfl, MemFits.pre 2 rfl⟩
end Go.Proofs.YtngodakgbldlpaaGreatDoor
