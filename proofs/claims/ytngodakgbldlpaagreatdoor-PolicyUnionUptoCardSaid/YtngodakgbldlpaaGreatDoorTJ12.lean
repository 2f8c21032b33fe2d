/-
  What comes of a packet, as a slice: by the program; policy.Run.
-/
import Derived.Test.YtngodakgbldlpaaGreatDoorTPo23
import Derived.Test.YtngodakgbldlpaaGreatDoorTJ9
import Derived.Test.YtngodakgbldlpaaGreatDoorTPo19
namespace Go.Proofs.YtngodakgbldlpaaGreatDoor
open Go.Sx
set_option maxRecDepth 20000
set_option linter.unusedSimpArgs false
set_option linter.unusedVariables false
set_option maxHeartbeats 4000000
set_option linter.unusedVariables false
namespace Po
abbrev SRow (F : Heap) (v : Value) (l : List S) : Prop := RowF F 5 (fun x vs => vs = x.vs) v l
end Po
theorem collect27_c (F : Heap) (b : Nat) (N : List Po.S) (hn : N.length ≤ 1000000) (cap : Addr) (hc : F.c cap (.map (some b))) (hb : F.o b (mapObj (Po.sM N))) :
    NCall Tryz.prog 64 [.fn 66 [] [.hp cap 0]] [hpB F] fun r m => ∃ (u : Value) (L : List Po.S), L.Perm N ∧ r = .sl 1 u L.length ∧ m = [hpB F, ⟨addrOf u, Po.savs L, .row u 63 5 L.length⟩] := by
  have ca := NCall.fits (appendseq27_c F b N hn cap hc hb) (K' := fun r m => ∃ (u : Value) (L : List Po.S), L.Perm N ∧ r = .sl 1 u L.length ∧ m = [hpB F, ⟨addrOf u, Po.savs L, .row u 63 5 L.length⟩]) fun r m ⟨u, L, h1, h2, h3⟩ => ⟨.sl 1 u L.length, _, h2.symm, h3, u, L, h1, rfl, rfl⟩
  refine ncall_of Tryz.func64 rfl (by decide) ?_
  repeat' first|(intro K hK;(with_reducible refine gC ?_);(refine cN [0] ca ?_;rintro _ _ ⟨u, L, hp, rfl, rfl⟩;refine cR ?_))|(refine sxZ ?_;try clear hK K)|refine sxW ?_ ?_<;>intro _|(intro K hK _;(conv=>whnf))
  all_goals exact ⟨u, L, hp, rfl, rfl⟩
theorem sortedfunc27_c (F : Heap) (b : Nat) (N R : List Po.S) (hn : N.length ≤ 1000000) (hnd : N.Nodup) (hR : Po.Rising R) (hmem : ∀ t, t ∈ N ↔ t ∈ R) (cap : Addr) (hc : F.c cap (.map (some b))) (hb : F.o b (mapObj (Po.sM N))) :
    NCall Tryz.prog 36 [.fn 66 [] [.hp cap 0], .fn 38 [] []] [hpB F] fun r m => ∃ u : Value, r = .sl 1 u R.length ∧ m = [hpB F, ⟨addrOf u, Po.savs R, .row u 63 5 R.length⟩] := by
  have ca := collect27_c F b N hn cap hc hb
  refine ncall_of Tryz.func36 rfl (by decide) ?_
  repeat' first|(intro K hK;(with_reducible refine gC ?_);first|(refine cN [0] ca ?_;rintro _ _ ⟨u, L, hp, rfl, rfl⟩;refine cR ?_)|(refine cN [1] (sorts_c u 63 L (by have := hp.length_eq; omega)) ?_;rintro _ _ ⟨rfl, L2, hp2, hs2, rfl⟩;refine cR ?_))|(refine sxZ ?_;try clear hK K)|refine sxW ?_ ?_<;>intro _|(intro K hK _;(conv=>whnf))
  all_goals
    have e := Po.sorted_eq (hp2.trans hp) hnd hs2 hR hmem
    subst e
    exact ⟨u, by rw [hp2.length_eq], by rw [hp2.length_eq]⟩
end Go.Proofs.YtngodakgbldlpaaGreatDoor
namespace Go.Proofs.YtngodakgbldlpaaGreatDoor
open Go.Sx
set_option maxRecDepth 20000
set_option linter.unusedSimpArgs false
set_option linter.unusedVariables false
set_option maxHeartbeats 4000000
set_option linter.unusedVariables false
/-- Packets that were made in a row of one's own lie among what is read alone. -/
theorem sents_know {f : FuncId} {args : List AV} {F : Heap} {t : TypeId} {m : List Blk} {l : List Po.S} (h : NCall Tryz.prog f args m fun r m' => ∃ v, r.den = slOf v ∧ MemFits m' [hpB F, ⟨addrOf v, Po.savs l, .row v t 5 l.length⟩]) :
    NCall Tryz.prog f args m fun r m' => ∃ F' v, F.le F' ∧ Po.SRow F' v l ∧ r = .hs v l.length ∧ m' = [hpB F'] := by
  refine Go.Sx.NCall.know h fun r m' ⟨v, hr, hm⟩ ⟨w, hw⟩ => ?_
  have hok := ((hm w hw).1.row (List.mem_cons_of_mem _ (List.mem_cons_self ..))).1
  have hrow := rowF_new (F := F) (sz := 5) (enc := Po.S.vs) hok (Po.savs_den _) (fun x _ => rfl)
  exact ⟨.hs v l.length, _, hr.symm, hm.trans (MemFits.freeze (m := [])), _, v, addF.old, hrow, rfl, rfl⟩
theorem sorted27_k (F : Heap) (b c : Nat) (t : TypeId) (N R : List Po.S) (hn : N.length ≤ 1000000) (hnd : N.Nodup) (hR : Po.Rising R) (hmem : ∀ t, t ∈ N ↔ t ∈ R) :
    NCall Tryz.prog 36 [.fn 66 [] [.ptr 2 ⟨c, 0, none⟩ 0], .fn 38 [] []] [hpB F, mapB b (Po.sM N), ⟨⟨c, 0, none⟩, [.raw (.map (some b))], .var t⟩] fun r m => ∃ (G : Heap) (u : Value), F.le G ∧ r = .sl 3 u R.length ∧ m = [hpB G, hpB noHeap, hpB noHeap, ⟨addrOf u, Po.savs R, .row u 63 5 R.length⟩] := by
  have hc : (addF (addO F b (mapObj (Po.sM N))) ⟨c, 0, none⟩ (denL [AV.raw (.map (some b))])).c ⟨c, 0, none⟩ (.map (some b)) := .inr ⟨0, by simp [Addr.add], by simp [denL, AV.den]⟩
  have hb : (addF (addO F b (mapObj (Po.sM N))) ⟨c, 0, none⟩ (denL [AV.raw (.map (some b))])).o b (mapObj (Po.sM N)) := .inr ⟨rfl, rfl⟩
  have h := sortedfunc27_c _ b N R hn hnd hR hmem ⟨c, 0, none⟩ hc hb
  have h := NCall.pre (args := [.fn 66 [] [.ptr 2 ⟨c, 0, none⟩ 0], .fn 38 [] []]) (m := [hpB F, mapB b (Po.sM N), ⟨⟨c, 0, none⟩, [.raw (.map (some b))], .var t⟩]) h rfl (MemFits.freezeObj.trans MemFits.freezeVar)
  have hle : F.le (addF (addO F b (mapObj (Po.sM N))) ⟨c, 0, none⟩ (denL [AV.raw (.map (some b))])) := addO.old.trans addF.old
  generalize addF (addO F b (mapObj (Po.sM N))) ⟨c, 0, none⟩ (denL [AV.raw (.map (some b))]) = G at *
  refine NCall.fits h fun r m ⟨u, h1, h2⟩ => ⟨.sl 3 u R.length, [hpB G, hpB noHeap, hpB noHeap, ⟨addrOf u, Po.savs R, .row u 63 5 R.length⟩], ?_, ?_, G, u, hle, rfl, rfl⟩
  · rw [h1]; rfl
  · rw [h2]
    exact ((MemFits.noHeap _).trans (MemFits.noHeap _)).trans (MemFits.pick [2, 0, 1, 3] (by decide) rfl)
theorem Run27_c (F : Heap) (x : Po.T) (pu u : Value) (sw : Int) (s : Po.S) (hs : Po.tot x ≤ 4611686018427387904) (hf : Po.fits x = true) (hl : (Po.runs sw x s).length ≤ 1000000) (hx : Po.At F x pu u) :
    NCall Tryz.prog 13 [.agg (Po.cs x pu u), .int .i64 sw, .int .i64 s.port, .agg [.int .i64 s.p0, .int .i64 s.p1, .int .i64 s.p2, .int .i64 s.p3]] [hpB F] fun r m => ∃ F' v, F.le F' ∧ Po.SRow F' v (Po.runs sw x s) ∧ r = .hs v (Po.runs sw x s).length ∧ m = [hpB F'] := by
  refine sents_know (t := 63) ?_
  have hok := hx.l.ok
  have hpok := hx.p.ok
  have cr := fun b => run27_c _ F x pu u sw (Nat.le_refl _) hs hf hx s b [] List.nodup_nil
  simp only [Po.doneR] at cr
  have hR := Po.runs_rising sw s _ x (Nat.le_refl _)
  have ck := fun b => keys27_c F b
  generalize Po.runs sw x s = R at *
  have hlen : ∀ N : List Po.S, N.Nodup → (∀ t, t ∈ N ↔ t ∈ ([] : List Po.S) ∨ t ∈ R) → N.length ≤ 1000000 ∧ ∀ t, t ∈ N ↔ t ∈ R := fun N hn hm => by
    have hm : ∀ t, t ∈ N ↔ t ∈ R := fun t => (hm t).trans (by simp)
    refine ⟨Nat.le_trans ?_ hl, hm⟩
    have hp : N.Perm R := by
      rw [List.perm_iff_count]
      intro t
      have hRn : R.Nodup := List.Pairwise.imp (fun {a b} (h : Po.ahead a b) (e : a = b) => Po.ahead_irrefl b (by rw [e] at h; exact h)) hR
      rw [hn.count, hRn.count]
      simp only [hm]
    rw [hp.length_eq]
    exact Nat.le_refl _
  have hsf := fun b c N (hn : N.length ≤ 1000000) hnd hm => sorted27_k F b c 65 N R hn hnd hR hm
  clear hl hR hx hf hs
  obtain ⟨k, ⟨pk, pf, pv, pl⟩, f0, v0, l⟩ := x
  obtain ⟨a0, q0, q1, q2, q3⟩ := s
  simp only [Po.cs, Po.T.k, Po.T.p, Po.T.f, Po.T.v, Po.T.l, Pd.T.k, Pd.T.f, Pd.T.v, Pd.T.l, Po.S.av] at *
  refine ncall_of Tryz.func13 rfl (by decide) ?_
  repeat' first|((try intro K hK);(with_reducible refine gC ?_);first|(refine cN [0, 3] (cr _) ?_;rintro _ _ ⟨N, hnd, hmem, rfl, rfl⟩;refine cR ?_)|(refine cN [0] (ck _) ?_;rintro _ _ ⟨c, rfl, rfl⟩;refine ⟨rfl,.fn 66 [] [.ptr 4 ⟨c, 0, none⟩ 0],rfl,?_⟩;(conv=>whnf))|(refine cN [0, 3, 4] (hsf _ _ N (hlen N hnd hmem).1 hnd (hlen N hnd hmem).2) ?_;rintro _ _ ⟨G, u9, hle, rfl, rfl⟩;refine ⟨rfl,.sl 5 u9 R.length,rfl,?_⟩;(conv=>whnf)))|((try intro K hK);((with_reducible refine gMap ?_); refine NMap.make fun b1 => ?_; conv=>whnf))|(refine sxZ ?_;try clear hK K)|refine sxW ?_ ?_<;>intro _|(intro K hK _;(conv=>whnf))|(intro _;(conv=>whnf))
  all_goals exact ⟨u9, rfl, (MemFits.pick [0, 5] (by decide) rfl).trans (MemFits.less hle _)⟩
end Go.Proofs.YtngodakgbldlpaaGreatDoor
