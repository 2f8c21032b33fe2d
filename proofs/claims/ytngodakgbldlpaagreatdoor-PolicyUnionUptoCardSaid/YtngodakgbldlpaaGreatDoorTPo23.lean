/-
  A map's keys, collected.
-/
import Derived.Test.YtngodakgbldlpaaGreatDoorTPo22
namespace Go.Proofs.YtngodakgbldlpaaGreatDoor
open Go.Sx
set_option maxRecDepth 20000
set_option linter.unusedSimpArgs false
set_option linter.unusedVariables false
set_option maxHeartbeats 4000000
set_option linter.unusedVariables false
def apM (F : Heap) (Bs : Nat) (u : Value) (pre : List Po.S) : List Blk :=
  [hpB F, ⟨⟨Bs, 0, none⟩, [.sl 2 u pre.length], .var 44⟩, ⟨addrOf u, Po.savs pre, .row u 63 5 pre.length⟩]
def apMM (F : Heap) (sl : List AV) (pre : List Po.S) (m : List Blk) : Prop :=
  ∃ Bs u, sl[2]? = some (.ptr 1 ⟨Bs, 0, none⟩ 0) ∧ m = apM F Bs u pre
theorem ap_inj {i j a b : Nat} (h : some (AV.ptr i ⟨a, 0, none⟩ 0) = some (AV.ptr j ⟨b, 0, none⟩ 0)) : a = b := by
  injection h with h
  injection h with _ h _
  injection h
theorem apM_plain {F : Heap} {Bs Bs' : Nat} {u u' : Value} {s s' : List Po.S} : ∀ k ∈ apM F Bs u s, plainB (apM F Bs' u' s') k := by
  intro k hk
  simp only [apM, List.mem_cons, List.not_mem_nil, or_false] at hk
  rcases hk with rfl | rfl | rfl
  · exact List.mem_cons_self ..
  · trivial
  · trivial
theorem apM_foot {F : Heap} {Bs : Nat} {u0 : Value} {w : World} {sl : List AV} (h2 : sl[2]? = some (.ptr 1 ⟨Bs, 0, none⟩ 0)) (hm : MemOk (apM F Bs u0 []) w) : ∃ Foot, FootOf (apM F Bs u0 []) (apMM F sl) Foot w := by
  have lF : ∀ b, (hpB F).foot b → b < w.heap.size := fun b hb => (hm.holds _ (by simp [apM])).lt hb
  have lU : Bs < w.heap.size := (hm.holds _ (List.mem_cons_of_mem _ (List.mem_cons_self ..))).lt rfl
  refine ⟨fun W b => ∃ (x : Value) (t : TypeId), W.heap[Bs]? = some (.cells #[x] t (0, 0)) ∧ x.ownBlock = some b, ?_, ?_⟩
  · rintro pre m1 W ⟨Bs', u, e2, rfl⟩ hmo b hb
    rw [h2] at e2
    obtain rfl := ap_inj e2
    have hO := (hmo.holds ⟨⟨Bs, 0, none⟩, [.sl 2 u pre.length], .var 44⟩ (by simp [apM])).2.2
    have hR := (hmo.holds ⟨addrOf u, Po.savs pre, .row u 63 5 pre.length⟩ (by simp [apM])).1.2
    have hslu : slOf u = u := by rcases hR with ⟨rfl, _⟩ | ⟨g, cp, cur, rfl, _⟩ <;> rfl
    have hO' : W.heap[Bs]? = some (.cells #[u] 44 (0, 0)) := by
      have : (denL [AV.sl 2 u pre.length]).toArray = #[u] := by simp [denL, AV.den, hslu]
      rw [this] at hO
      exact hO
    constructor
    · rintro ⟨k, hk, hkb⟩
      simp only [apM, List.mem_cons, List.not_mem_nil, or_false] at hk
      rcases hk with rfl | rfl | rfl
      · exact absurd (lF b hkb) (by omega)
      · simp only [Blk.foot, Blk.bn, Option.some.injEq] at hkb
        omega
      · exact ⟨u, _, hO', hkb⟩
    · rintro ⟨x, t, hx, hxb⟩
      rw [hO'] at hx
      injection hx with hx
      injection hx with hx _ _
      have hx : u = x := by simpa using hx
      subst hx
      exact ⟨⟨addrOf u, Po.savs pre, .row u 63 5 pre.length⟩, (List.mem_cons_of_mem _ (List.mem_cons_of_mem _ (List.mem_cons_self ..))), hxb⟩
  · rintro W W' row b hsz hg hr ⟨x, t, hx, hxb⟩
    refine ⟨x, t, ?_, hxb⟩
    rw [← hx]
    exact (hg.block Bs (by omega) fun e => by have := hr Bs e.symm; omega).symm
theorem Po.savs_next (pre : List Po.S) (t : Po.S) : Po.savs (pre ++ [t]) = Po.savs pre ++ [.int .i64 t.port, .int .i64 t.p0, .int .i64 t.p1, .int .i64 t.p2, .int .i64 t.p3] := by
  rw [Po.savs_append]; rfl
theorem appendseq27_c (F : Heap) (b : Nat) (N : List Po.S) (hn : N.length ≤ 1000000) (cap : Addr) (hc : F.c cap (.map (some b))) (hb : F.o b (mapObj (Po.sM N))) :
    NCall Tryz.prog 89 [.raw (.slice none 0 0), .fn 66 [] [.hp cap 0]] [hpB F] fun r m => ∃ (u : Value) (L : List Po.S), L.Perm N ∧ r.den = slOf u ∧ MemFits m [hpB F, ⟨addrOf u, Po.savs L, .row u 63 5 L.length⟩] := by
  refine ncall_rangeS Tryz.func89 rfl (by decide) rfl rfl encS (fun x => x.av) 5 63 (fun ys => ys.Perm N) N.length (apMM F) (fun _ => rfl) ?_
  repeat' first|(refine sxZ ?_;try clear hK K)|refine sxW ?_ ?_<;>intro _|(intro K hK _;(conv=>whnf))|(intro _;(conv=>whnf))
  rename_i Bs
  refine ⟨rfl, 66, [.hp cap 0], apM F Bs (.slice none 0 0) [], ?_, ?_, Go.Sx.enters_of Tryz.func66 rfl (by decide),
    keys_gives F b N _ (List.mem_cons_self ..) cap hc hb, ⟨Bs, .slice none 0 0, rfl, rfl⟩, apM_plain, fun w hm => apM_foot rfl hm, ?_, ?_, ?_⟩
  · exact (MemFits.nilRow _ 63 5).trans (MemFits.congr rfl)
  · show (AV.fn _ [] [AV.hp _ 0]).den = _
    rfl
  · rintro pre x m2 ⟨Bs', u, e2, rfl⟩
    clear e2
    unfold apM
    repeat' first|(refine sxZ ?_;try clear hK K)|refine sxW ?_ ?_<;>intro _|(intro K hK _;(conv=>whnf))
    exact ⟨rfl, _, rfl, rfl⟩
  · rintro pre x b2 m2 hlt ⟨Bs', u, e2, rfl⟩
    obtain rfl := ap_inj (show some (AV.ptr 1 ⟨Bs, 0, none⟩ 0) = some (AV.ptr 1 ⟨Bs', 0, none⟩ 0) from e2)
    have hmm : ∀ u', apMM F _ (pre ++ [x]) (apM F Bs u' (pre ++ [x])) := fun u' => ⟨Bs, u', e2, rfl⟩
    clear e2
    have hfit : ∀ u' m3, MemFits m3 (apM F Bs u' (pre ++ [x])) → ∃ m4, MemFits m3 m4 ∧ apMM F _ (pre ++ [x]) m4 ∧ ∀ k ∈ m4, plainB (apM F Bs (.slice none 0 0) []) k :=
      fun u' m3 h => ⟨_, h, hmm u', apM_plain⟩
    clear hmm
    have hal := Po.savs_len pre
    have hnx := Po.savs_next pre x
    have hl2 : (pre ++ [x]).length = pre.length + 1 := by simp
    unfold apM at hfit ⊢
    rw [hnx, hl2] at hfit
    generalize Po.savs pre = ps at *
    obtain ⟨a0, q0, q1, q2, q3⟩ := x
    simp only [Po.S.av] at *
    repeat' first|(refine sxZ ?_;try clear hK K)|refine sxW ?_ ?_<;>intro _|(intro K hK _;(conv=>whnf))
    all_goals
      rename_i v2
      refine ⟨rfl, hfit v2 _ (MemFits.pre 3 ?_)⟩
      rfl
  · rintro xs m2 hxs ⟨Bs', u, e2, rfl⟩
    obtain rfl := ap_inj (show some (AV.ptr 1 ⟨Bs, 0, none⟩ 0) = some (AV.ptr 1 ⟨Bs', 0, none⟩ 0) from e2)
    clear e2
    unfold apM
    repeat' first|(refine sxZ ?_;try clear hK K)|refine sxW ?_ ?_<;>intro _|(intro K hK _;(conv=>whnf))
    all_goals exact ⟨u, xs, hxs, rfl, MemFits.pick [0, 2] (by decide) rfl⟩
end Go.Proofs.YtngodakgbldlpaaGreatDoor


