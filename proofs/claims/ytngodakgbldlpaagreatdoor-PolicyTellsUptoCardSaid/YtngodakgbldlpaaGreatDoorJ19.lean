import Derived.Test.YtngodakgbldlpaaGreatDoorJ18
import Derived.Test.YtngodakgbldlpaaGreatDoorJ10
import Derived.Shelf.SlSortCmp.NoneTotal
namespace Go.Proofs.YtngodakgbldlpaaGreatDoor
open Go.Sx
set_option maxRecDepth 20000
set_option linter.unusedSimpArgs false
set_option linter.unusedVariables false
set_option maxHeartbeats 4000000
set_option linter.unusedVariables false
def apM (F : Heap) (Bs : Nat) (u : Value) (pre : List Po.S) : List Blk :=
  [hpB F, ⟨⟨Bs, 0, none⟩, [.sl 2 u pre.length], .var 44⟩, ⟨addrOf u, Po.savs pre, .row u 63 5 pre.length⟩]
def apMM (F : Heap) (sl : List AV) (pre : List Po.S) (m : List Blk) : Prop :=
  ∃ Bs u, sl[2]? = some (.ptr 1 ⟨Bs, 0, none⟩ 0) ∧ m = apM F Bs u pre
theorem ap_inj {i j a b : Nat} (h : some (AV.ptr i ⟨a, 0, none⟩ 0) = some (AV.ptr j ⟨b, 0, none⟩ 0)) : a = b := by
  injection h with h
  injection h with _ h _
  injection h
theorem apM_plain {F : Heap} {Bs Bs' : Nat} {u u' : Value} {s s' : List Po.S} : ∀ k ∈ apM F Bs u s, plainB (apM F Bs' u' s') k := by
  intro k hk
  simp only [apM, List.mem_cons, List.not_mem_nil, or_false] at hk
  rcases hk with rfl | rfl | rfl
  · exact List.mem_cons_self ..
  · trivial
  · trivial
theorem apM_foot {F : Heap} {Bs : Nat} {u0 : Value} {w : World} {sl : List AV} (h2 : sl[2]? = some (.ptr 1 ⟨Bs, 0, none⟩ 0)) (hm : MemOk (apM F Bs u0 []) w) : ∃ Foot, FootOf (apM F Bs u0 []) (apMM F sl) Foot w := by
  have lF : ∀ b, (hpB F).foot b → b < w.heap.size := fun b hb => (hm.holds _ (by simp [apM])).lt hb
  have lU : Bs < w.heap.size := (hm.holds _ (List.mem_cons_of_mem _ (List.mem_cons_self ..))).lt rfl
  refine ⟨fun W b => ∃ (x : Value) (t : TypeId), W.heap[Bs]? = some (.cells #[x] t (0, 0)) ∧ x.ownBlock = some b, ?_, ?_⟩
  · rintro pre m1 W ⟨Bs', u, e2, rfl⟩ hmo b hb
    rw [h2] at e2
    obtain rfl := ap_inj e2
    have hO := (hmo.holds ⟨⟨Bs, 0, none⟩, [.sl 2 u pre.length], .var 44⟩ (by simp [apM])).2.2
    have hR := (hmo.holds ⟨addrOf u, Po.savs pre, .row u 63 5 pre.length⟩ (by simp [apM])).1.2
    have hslu : slOf u = u := by rcases hR with ⟨rfl, _⟩ | ⟨g, cp, cur, rfl, _⟩ <;> rfl
    have hO' : W.heap[Bs]? = some (.cells #[u] 44 (0, 0)) := by
      have : (denL [AV.sl 2 u pre.length]).toArray = #[u] := by simp [denL, AV.den, hslu]
      rw [this] at hO
      exact hO
    constructor
    · rintro ⟨k, hk, hkb⟩
      simp only [apM, List.mem_cons, List.not_mem_nil, or_false] at hk
      rcases hk with rfl | rfl | rfl
      · exact absurd (lF b hkb) (by omega)
      · simp only [Blk.foot, Blk.bn, Option.some.injEq] at hkb
        omega
      · exact ⟨u, _, hO', hkb⟩
    · rintro ⟨x, t, hx, hxb⟩
      rw [hO'] at hx
      injection hx with hx
      injection hx with hx _ _
      have hx : u = x := by simpa using hx
      subst hx
      exact ⟨⟨addrOf u, Po.savs pre, .row u 63 5 pre.length⟩, (List.mem_cons_of_mem _ (List.mem_cons_of_mem _ (List.mem_cons_self ..))), hxb⟩
  · rintro W W' row b hsz hg hr ⟨x, t, hx, hxb⟩
    refine ⟨x, t, ?_, hxb⟩
    rw [← hx]
    exact (hg.block Bs (by omega) fun e => by have := hr Bs e.symm; omega).symm
theorem Po.savs_next (pre : List Po.S) (t : Po.S) : Po.savs (pre ++ [t]) = Po.savs pre ++ [.int .i64 t.port, .int .i64 t.p0, .int .i64 t.p1, .int .i64 t.p2, .int .i64 t.p3] := by
  rw [Po.savs_append]; rfl
theorem appendseq27_c (F : Heap) (b : Nat) (N : List Po.S) (hn : N.length ≤ 1000000) (cap : Addr) (hc : F.c cap (.map (some b))) (hb : F.o b (mapObj (Po.sM N))) :
    NCall Tryz.prog 89 [.raw (.slice none 0 0), .fn 66 [] [.hp cap 0]] [hpB F] fun r m => ∃ (u : Value) (L : List Po.S), L.Perm N ∧ r.den = slOf u ∧ MemFits m [hpB F, ⟨addrOf u, Po.savs L, .row u 63 5 L.length⟩] := by
  refine ncall_rangeS Tryz.func89 rfl (by decide) rfl rfl encS (fun x => x.av) 5 63 (fun ys => ys.Perm N) N.length (apMM F) (fun _ => rfl) ?_
  (repeat' (((intro _;skip)<;>(conv=>whnf))))
  rename_i Bs
  refine ⟨rfl, 66, [.hp cap 0], apM F Bs (.slice none 0 0) [], ?_, ?_, Go.Sx.enters_of Tryz.func66 rfl (by decide),
    keys_gives F b N _ (List.mem_cons_self ..) cap hc hb, ⟨Bs, .slice none 0 0, rfl, rfl⟩, apM_plain, fun w hm => apM_foot rfl hm, ?_, ?_, ?_⟩
  · exact (MemFits.nilRow _ 63 5).trans (MemFits.congr rfl)
  · show (AV.fn _ [] [AV.hp _ 0]).den = _
    rfl
  · rintro pre x m2 ⟨Bs', u, e2, rfl⟩
    clear e2
    unfold apM
    (repeat' (first|(with_reducible (refine hK _ _ ?_;clear hK K))|((with_reducible refine gO ?_);(first|((with_reducible refine z25 ?_);intro K hK;(conv=>whnf))|(with_reducible refine z0 ?_)))|((((with_reducible refine gH ?_;refine NH.mk ?s ?_);case s=>(and_intros<;>first|with_reducible rfl|((with_reducible refine gOnes ?_);rfl)|((with_reducible refine gLen ?_);rfl))))<;>(conv=>whnf))|(with_reducible refine gX ?_;refine z4 ?_)|(with_reducible refine z1 ?_)|((intro _;skip)<;>(conv=>whnf))))
    exact ⟨rfl, _, rfl, rfl⟩
  · rintro pre x b2 m2 hlt ⟨Bs', u, e2, rfl⟩
    obtain rfl := ap_inj (show some (AV.ptr 1 ⟨Bs, 0, none⟩ 0) = some (AV.ptr 1 ⟨Bs', 0, none⟩ 0) from e2)
    have hmm : ∀ u', apMM F _ (pre ++ [x]) (apM F Bs u' (pre ++ [x])) := fun u' => ⟨Bs, u', e2, rfl⟩
    clear e2
    have hfit : ∀ u' m3, MemFits m3 (apM F Bs u' (pre ++ [x])) → ∃ m4, MemFits m3 m4 ∧ apMM F _ (pre ++ [x]) m4 ∧ ∀ k ∈ m4, plainB (apM F Bs (.slice none 0 0) []) k :=
      fun u' m3 h => ⟨_, h, hmm u', apM_plain⟩
    clear hmm
    have hal := Po.savs_len pre
    have hnx := Po.savs_next pre x
    have hl2 : (pre ++ [x]).length = pre.length + 1 := by simp
    unfold apM at hfit ⊢
    rw [hnx, hl2] at hfit
    generalize Po.savs pre = ps at *
    obtain ⟨a0, q0, q1, q2, q3⟩ := x
    simp only [Po.S.av] at *
    (repeat' (first|(with_reducible (refine hK _ _ ?_;clear hK K))|((with_reducible refine gO ?_);(first|((with_reducible refine z25 ?_);intro K hK;(conv=>whnf))|(with_reducible refine z0 ?_)))|((((with_reducible refine gH ?_;refine NH.mk ?s ?_);case s=>(and_intros<;>first|with_reducible rfl|((with_reducible refine gOnes ?_);rfl)|((with_reducible refine gLen ?_);rfl)|omega)))<;>(conv=>whnf))|(with_reducible refine gX ?_;first|refine z4 ?_|refine z5 ?_)|(with_reducible first|refine z1 ?_|refine z9 ?_)|((intro _;skip)<;>(conv=>whnf))))
    all_goals
      rename_i v2
      refine ⟨rfl, hfit v2 _ (MemFits.pre 3 ?_)⟩
      rfl
  · rintro xs m2 hxs ⟨Bs', u, e2, rfl⟩
    obtain rfl := ap_inj (show some (AV.ptr 1 ⟨Bs, 0, none⟩ 0) = some (AV.ptr 1 ⟨Bs', 0, none⟩ 0) from e2)
    clear e2
    unfold apM
    (repeat' (first|(with_reducible (refine hK _ _ ?_;clear hK K))|((with_reducible refine gO ?_);(first|((with_reducible refine z25 ?_);intro K hK;(conv=>whnf))|(with_reducible refine z0 ?_)))|((((with_reducible refine gH ?_;refine NH.mk ?s ?_);case s=>(and_intros<;>with_reducible rfl)))<;>(conv=>whnf))|(with_reducible refine gX ?_;first|refine z3 ?_|refine z4 ?_|refine z8 ?_)|(with_reducible first|refine z1 ?_|refine z2 ?_)))
    all_goals exact ⟨u, xs, hxs, rfl, MemFits.pick [0, 2] (by decide) rfl⟩
end Go.Proofs.YtngodakgbldlpaaGreatDoor
namespace Go.Proofs.YtngodakgbldlpaaGreatDoor
open Go.Sx
set_option maxRecDepth 20000
set_option maxHeartbeats 4000000
set_option linter.unusedVariables false
namespace Po
theorem lt_ahead (x y : S) : Go.Proofs.ltOf cmpS x y = decide (ahead x y) := by
  unfold Go.Proofs.ltOf
  exact decide_eq_decide.2 (cmpS_lt x y)
theorem swoS : Go.Sort.SWO (Go.Proofs.ltOf cmpS) where
  irrefl x := by rw [lt_ahead]; exact decide_eq_false (ahead_irrefl x)
  trans x y z h1 h2 := by rw [lt_ahead, decide_eq_true_eq] at *; exact ahead_trans h1 h2
  ntrans x y z h1 h2 := by rw [lt_ahead, decide_eq_false_iff_not] at *; unfold ahead at *; omega
end Po
theorem sorts_c (v : Value) (t : TypeId) (L : List Po.S) (hl : L.length < 4611686018427387904) :
    NCall Tryz.prog 65 [.sl 0 v L.length, .fn 38 [] []] [⟨addrOf v, Po.savs L, .row v t 5 L.length⟩] fun r m => r = .tup [] ∧ ∃ L' : List Po.S, L'.Perm L ∧ L'.Pairwise (fun x y => ¬ Po.ahead y x) ∧ m = [⟨addrOf v, Po.savs L', .row v t 5 L.length⟩] := by
  rw [NCall_iff]
  refine ⟨Go.Sx.enters_of Tryz.func65 rfl (by decide), fun w hm => ?_⟩
  obtain ⟨⟨h1, h2⟩, h3⟩ := hm.holds _ (List.mem_singleton.2 rfl)
  rcases h2 with ⟨rfl, hn⟩ | ⟨g, cap, cur, rfl, _, hg, hle, hcap, hsz, htk⟩
  · have e : L = [] := List.length_eq_zero_iff.1 hn
    subst e
    refine (AnyF.slices_SortFunc_none Tryz.sortSent none 0 _ w).mono fun e w' ⟨he, hw⟩ => ?_
    subst hw
    exact ⟨.tup [], _, ⟨rfl, [], List.Perm.refl _, List.Pairwise.nil, rfl⟩, he, hm, Fr.refl _ _, Fresh.self _ _⟩
  · rw [Po.savs_den] at htk
    have hlt : g < w.heap.size := (Array.getElem?_eq_some_iff.1 hg).1
    have hH : Go.Sort.HoldsK Po.S.vs 5 w g 0 L.toArray := by
      unfold Go.Sort.HoldsK
      rw [Po.flatK_eq]
      exact holds_of_blockV hg (by rw [Po.flat_len]; exact htk)
    have eg : ∀ args w, (callFunc 38 args).run Tryz.prog w = .ok (.enter 38 args) w := Go.Sx.enters_of Tryz.func38 rfl (by decide)
    have hcmp : Go.Proofs.CmpLays Tryz.prog 38 #[] Po.S.vs 5 Po.cmpS g 0 L.toArray.size w := fun m os dk _ x y => by
      simpa using order27_x x y _
    refine (AnyQ.slices_SortFunc Tryz.sortSent 5 (fun w => Go.Sx.run_isAgg (b := true) (by kernel_rfl) w) (fun w => Go.Sx.run_sizeOf (s := 5) (by kernel_rfl) w) Po.S.vs (fun _ => rfl) (fun x v hv => by simp [Po.S.vs] at hv; rcases hv with rfl | rfl | rfl | rfl | rfl <;> rfl) Po.cmpS Po.swoS 38 #[] g 0 cap L.toArray w eg hcmp hH hlt (by simpa using hl)).mono fun e w' ⟨he, d', n, os, hp, hs, hw⟩ => ?_
    have hperm : d'.toList.Perm L := by
      have h4 := hp.2.2
      have e1 : d'.extract 0 L.toArray.size = d' := by
        have := hp.1
        rw [← this, Array.extract_size]
      rw [e1] at h4
      simpa using h4
    have hsort : d'.toList.Pairwise (fun x y => ¬ Po.ahead y x) := by
      rw [List.pairwise_iff_getElem]
      intro i j hi hj hij
      have hsz2 := hp.1
      have h4 := hs i j (Nat.zero_le _) hij (by rw [← hsz2]; simpa using hj)
      rw [Po.lt_ahead, decide_eq_false_iff_not] at h4
      rw [getElem!_pos _ j (by simpa using hj), getElem!_pos _ i (by simpa using hi)] at h4
      simpa using h4
    have hlen : d'.toList.length = L.length := hperm.length_eq
    have hw' : w' = Go.Sort.grow (Go.Sort.putRow id (Go.Sort.ahead w n) g 0 (d'.toList.flatMap Po.S.vs).toArray) os := by
      rw [hw]
      unfold Go.Proofs.sortWorldK Go.Sort.putRowK
      rw [show d' = d'.toList.toArray from rfl, Po.flatK_eq]
    have hgr := grownBy_sortedV (w := w) (g := g) (n := n) (os := os) (d'.toList.flatMap Po.S.vs).toArray
    have hhp := heap_sortedV (n := n) (os := os) (d'.toList.flatMap Po.S.vs).toArray hg
    rw [← hw'] at hgr hhp
    have hfl : (d'.toList.flatMap Po.S.vs).length = L.length * 5 := by rw [Po.flat_len, hlen]
    have hown : w'.ownsRow 0 t 5 (.slice (some ⟨g, 0, none⟩) L.length cap) L.length (denL (Po.savs d'.toList)) := by
      rw [Po.savs_den]
      exact ⟨by rw [hfl], .inr ⟨g, cap, _, rfl, Nat.zero_le _, hhp, hle, hcap, by simp [Go.Sort.putCells, hsz], by rw [← hfl]; exact take_putCellsV cur _ (by rw [hfl, hsz]; exact Nat.mul_le_mul_right 5 hle)⟩⟩
    have hfr := Fr.grown hgr
    refine ⟨.tup [], _, ⟨rfl, d'.toList, hperm, hsort, rfl⟩, he, ?_, ?_, ?_⟩
    · exact hm.set (i := 0) (k := ⟨addrOf (.slice (some ⟨g, 0, none⟩) L.length cap), Po.savs d'.toList, .row (.slice (some ⟨g, 0, none⟩) L.length cap) t 5 L.length⟩) hfr.size rfl rfl
        (fun b hb hlt => hfr.block b hlt fun e => hb e) ⟨hown, rfl⟩ (fun F e => by cases e) (.inr (.inl rfl))
    · exact ⟨hfr.os, hfr.tape, hfr.output, hfr.size, fun k hk hS => hfr.block k hk fun e => hS ⟨_, List.mem_singleton.2 rfl, rfl, e⟩⟩
    · exact Fresh.set (i := 0) (Fresh.self _ _) (k := ⟨addrOf (.slice (some ⟨g, 0, none⟩) L.length cap), Po.savs d'.toList, .row (.slice (some ⟨g, 0, none⟩) L.length cap) t 5 L.length⟩) (fun F e => by cases e) fun b hb => .inl ⟨_, List.mem_singleton.2 rfl, rfl, hb⟩
end Go.Proofs.YtngodakgbldlpaaGreatDoor
