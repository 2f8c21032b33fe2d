/-
  policy.Run; Statements that draw their order: what is read alone is read first.
-/
import Derived.Test.YtpkjnmddembkjaaGreatDoorJ19
import Derived.Test.YtpkjnmddembkjaaGreatDoorSxC
import Derived.OrdersHeld
namespace Go.Proofs.YtpkjnmddembkjaaGreatDoor
open Go.Sx
set_option maxRecDepth 20000
set_option linter.unusedSimpArgs false
set_option linter.unusedVariables false
set_option maxHeartbeats 4000000
set_option linter.unusedVariables false
/-- Packets that were made in a row of one's own lie among what is read alone. -/
theorem sents_know {f : FuncId} {args : List AV} {F : Heap} {t : TypeId} {m : List Blk} {l : List Po.S} (h : NCall Tryz.prog f args m fun r m' => ∃ v, r.den = slOf v ∧ MemFits m' [hpB F, ⟨addrOf v, Po.savs l, .row v t 5 l.length⟩]) :
    NCall Tryz.prog f args m fun r m' => ∃ F' v, F.le F' ∧ Po.SRow F' v l ∧ r = .hs v l.length ∧ m' = [hpB F'] := by
  refine Go.Sx.NCall.know h fun r m' ⟨v, hr, hm⟩ ⟨w, hw⟩ => ?_
  have hok := ((hm w hw).1.row (List.mem_cons_of_mem _ (List.mem_cons_self ..))).1
  have hrow := rowF_new (F := F) (sz := 5) (enc := Po.S.vs) hok (Po.savs_den _) (fun x _ => rfl)
  exact ⟨.hs v l.length, _, hr.symm, hm.trans (MemFits.freeze (m := [])), _, v, addF.old, hrow, rfl, rfl⟩
theorem sorted27_k (F : Heap) (b c : Nat) (t : TypeId) (N R : List Po.S) (hn : N.length ≤ 1000000) (hnd : N.Nodup) (hR : Po.Rising R) (hmem : ∀ t, t ∈ N ↔ t ∈ R) :
    NCall Tryz.prog 62 [.fn 97 [] [.ptr 2 ⟨c, 0, none⟩ 0], .fn 64 [] []] [hpB F, mapB b (Po.sM N), ⟨⟨c, 0, none⟩, [.raw (.map (some b))], .var t⟩] fun r m => ∃ (G : Heap) (u : Value), F.le G ∧ r = .sl 3 u R.length ∧ m = [hpB G, hpB noHeap, hpB noHeap, ⟨addrOf u, Po.savs R, .row u 96 5 R.length⟩] := by
  have hc : (addF (addO F b (mapObj (Po.sM N))) ⟨c, 0, none⟩ (denL [AV.raw (.map (some b))])).c ⟨c, 0, none⟩ (.map (some b)) := .inr ⟨0, by simp [Addr.add], by simp [denL, AV.den]⟩
  have hb : (addF (addO F b (mapObj (Po.sM N))) ⟨c, 0, none⟩ (denL [AV.raw (.map (some b))])).o b (mapObj (Po.sM N)) := .inr ⟨rfl, rfl⟩
  have h := sortedfunc27_c _ b N R hn hnd hR hmem ⟨c, 0, none⟩ hc hb
  have h := NCall.pre (args := [.fn 97 [] [.ptr 2 ⟨c, 0, none⟩ 0], .fn 64 [] []]) (m := [hpB F, mapB b (Po.sM N), ⟨⟨c, 0, none⟩, [.raw (.map (some b))], .var t⟩]) h rfl (MemFits.freezeObj.trans MemFits.freezeVar)
  have hle : F.le (addF (addO F b (mapObj (Po.sM N))) ⟨c, 0, none⟩ (denL [AV.raw (.map (some b))])) := addO.old.trans addF.old
  generalize addF (addO F b (mapObj (Po.sM N))) ⟨c, 0, none⟩ (denL [AV.raw (.map (some b))]) = G at *
  refine NCall.fits h fun r m ⟨u, h1, h2⟩ => ⟨.sl 3 u R.length, [hpB G, hpB noHeap, hpB noHeap, ⟨addrOf u, Po.savs R, .row u 96 5 R.length⟩], ?_, ?_, G, u, hle, rfl, rfl⟩
  · rw [h1]; rfl
  · rw [h2]
    exact ((MemFits.noHeap _).trans (MemFits.noHeap _)).trans (MemFits.pick [2, 0, 1, 3] (by decide) rfl)
theorem Run27_c (F : Heap) (x : Po.T) (pu u : Value) (sw : Int) (s : Po.S) (hs : Po.tot x ≤ 4611686018427387904) (hf : Po.fits x = true) (hl : (Po.runs sw x s).length ≤ 1000000) (hx : Po.At F x pu u) :
    NCall Tryz.prog 30 [.agg (Po.cs x pu u), .int .i64 sw, .int .i64 s.port, .agg [.int .i64 s.p0, .int .i64 s.p1, .int .i64 s.p2, .int .i64 s.p3]] [hpB F] fun r m => ∃ F' v, F.le F' ∧ Po.SRow F' v (Po.runs sw x s) ∧ r = .hs v (Po.runs sw x s).length ∧ m = [hpB F'] := by
  refine sents_know (t := 96) ?_
  have hok := hx.l.ok
  have hpok := hx.p.ok
  have cr := fun b => run27_c _ F x pu u sw (Nat.le_refl _) hs hf hx s b [] List.nodup_nil
  simp only [Po.doneR] at cr
  have hR := Po.runs_rising sw s _ x (Nat.le_refl _)
  have ck := fun b => keys27_c F b
  generalize Po.runs sw x s = R at *
  have hlen : ∀ N : List Po.S, N.Nodup → (∀ t, t ∈ N ↔ t ∈ ([] : List Po.S) ∨ t ∈ R) → N.length ≤ 1000000 ∧ ∀ t, t ∈ N ↔ t ∈ R := fun N hn hm => by
    have hm : ∀ t, t ∈ N ↔ t ∈ R := fun t => (hm t).trans (by simp)
    refine ⟨Nat.le_trans ?_ hl, hm⟩
    have hp : N.Perm R := by
      rw [List.perm_iff_count]
      intro t
      have hRn : R.Nodup := List.Pairwise.imp (fun {a b} (h : Po.ahead a b) (e : a = b) => Po.ahead_irrefl b (by rw [e] at h; exact h)) hR
      rw [hn.count, hRn.count]
      simp only [hm]
    rw [hp.length_eq]
    exact Nat.le_refl _
  have hsf := fun b c N (hn : N.length ≤ 1000000) hnd hm => sorted27_k F b c 97 N R hn hnd hR hm
  clear hl hR hx hf hs
  obtain ⟨k, ⟨pk, pf, pv, pl⟩, f0, v0, l⟩ := x
  obtain ⟨a0, q0, q1, q2, q3⟩ := s
  simp only [Po.cs, Po.T.k, Po.T.p, Po.T.f, Po.T.v, Po.T.l, Pd.T.k, Pd.T.f, Pd.T.v, Pd.T.l, Po.S.av] at *
  refine ncall_of Tryz.func30 rfl (by decide) ?_
  (repeat' (first|(with_reducible first|(refine hK _ _ ?_;clear hK K)|(refine hK _ ?_;clear hK K))|((with_reducible refine gO ?_);(first|((with_reducible refine z25 ?_);intro K hK;(conv=>whnf))|(with_reducible refine z0 ?_)))|((first|((with_reducible refine gH ?_);((with_reducible refine NH.mk ?s ?_);case s=>(and_intros<;>with_reducible rfl)))|((with_reducible refine gC ?_);(first|((with_reducible refine NCall.isF 61 ?_);refine NCall.subw [0, 3] _ _ (cr _) rfl (by decide) rfl ?_; rintro _ _ ⟨N, hnd, hmem, rfl, rfl⟩; refine ⟨Nat.le_of_ble_eq_true rfl, _, rfl, ?_⟩)|((with_reducible refine NCall.isF 63 ?_);refine NCall.subw [0] _ _ (ck _) rfl (by decide) rfl ?_; rintro _ _ ⟨c, rfl, rfl⟩; refine ⟨Nat.le_of_ble_eq_true rfl, .fn 97 [] [.ptr 4 ⟨c, 0, none⟩ 0], rfl, ?_⟩)|((with_reducible refine NCall.isF 62 ?_);refine NCall.subw [0, 3, 4] _ _ (hsf _ _ N (hlen N hnd hmem).1 hnd (hlen N hnd hmem).2) rfl (by decide) rfl ?_; rintro _ _ ⟨G, u9, hle, rfl, rfl⟩; refine ⟨Nat.le_of_ble_eq_true rfl, .sl 5 u9 R.length, rfl, ?_⟩))))<;>(conv=>whnf))|((with_reducible refine gMap ?_); refine NMap.make fun b1 => ?_; conv=>whnf)|((with_reducible refine gX ?_);((with_reducible first|refine z3 ?_|refine z4 ?_|refine z8 ?_)))|(with_reducible first|refine z1 ?_|refine z2 ?_)|((with_reducible refine gR ?_);((refine z31 rfl ?_);intro K hK;(conv=>whnf)))|((with_reducible refine gF ?_);((refine z33 rfl ?_);intro K hK;(conv=>whnf)))|((intro _;skip)<;>(conv=>whnf))))
  all_goals exact ⟨u9, rfl, (MemFits.pick [0, 5] (by decide) rfl).trans (MemFits.less hle _)⟩
end Go.Proofs.YtpkjnmddembkjaaGreatDoor
namespace Go.Sx
section
variable {P : Program}
def inHeap (sl : List AV) (t : Nat) : Bool :=
  match sl[t]? with
  | some (.hp _ _) => true
  | some (.hs _ _) => true
  | _ => false
/-- What looks at nothing but what is read alone. -/
def heapLoad (sl : List AV) : Op → Bool
  | .load _ (.tmp t) => inHeap sl t
  | .indexAddr _ (.tmp t) _ => inHeap sl t
  | .slice _ (.tmp t) _ _ _ => inHeap sl t
  | _ => false
/-- The next operation that may go first whatever the others do. -/
def nextH (P : Program) (sl : List AV) (done : List Nat) : Nat → List Oper → Option (Nat × Oper)
  | _, [] => none
  | i, o :: os => match done.contains i, readyO o done, pureOp P o.op, heapLoad sl o.op with
    | false, true, true, _ => some (i, o)
    | false, true, false, true => some (i, o)
    | _, _, _, _ => nextH P sl done (i + 1) os
theorem nextH_at {sl : List AV} {done : List Nat} : ∀ (os : List Oper) (i j : Nat) (o : Oper), nextH P sl done i os = some (j, o) → ∃ t, j = i + t ∧ os[t]? = some o
  | [], _, _, _, h => by simp [nextH] at h
  | x :: os, i, j, o, h => by
    unfold nextH at h
    split at h
    · simp only [Option.some.injEq, Prod.mk.injEq] at h
      obtain ⟨rfl, rfl⟩ := h
      exact ⟨0, rfl, rfl⟩
    · simp only [Option.some.injEq, Prod.mk.injEq] at h
      obtain ⟨rfl, rfl⟩ := h
      exact ⟨0, rfl, rfl⟩
    · obtain ⟨t, h1, h2⟩ := nextH_at os (i + 1) j o h
      exact ⟨t + 1, by omega, by simpa using h2⟩
def HpS (F : Heap) (w : World) : Prop := (hpB F).holds w
/-- What is left of a statement that draws its order, in any order. -/
@[irreducible] def NOrdH (P : Program) (F : Heap) (l : List Oper) (n : Nat) (done : List Nat) (sl : List AV) (m : List Blk) (k : List AV → List Blk → Prop) : Prop :=
  ∀ (w0 : World) (S : Own) (a : Act) (w : World), Sim w0 S sl m a w → wpAnyH P .any l.toArray (OrdQ w0 S k) (HpS F) n (listedOf l.length done) a w
@[irreducible] def NEachH (P : Program) (F : Heap) (l : List Oper) (n : Nat) (done : List Nat) (sl : List AV) (m : List Blk) (k : List AV → List Blk → Prop) (rs : List (Nat × Oper)) : Prop :=
  ∀ x ∈ rs, ∀ (w0 : World) (S : Own) (a : Act) (w : World), Sim w0 S sl m a w → l.toArray[x.1]? = some x.2 → wpOp P l.toArray (OrdQ w0 S k) x.1 (fun a w => HpS F w ∧ wpAnyH P .any l.toArray (OrdQ w0 S k) (HpS F) n (listedOf l.length (x.1 :: done)) a w) a w
theorem st_orderH {Q : Post} {sl : List AV} {m : List Blk} {id : Nat} {l : List Oper} {F : Heap} (_hF : m[0]? = some (hpB F)) (h1 : P.follows .mixedOrders = true) (n : Nat) (hn : l.length = n) (h : NOrdH P F l n [] sl m (normS Q)) : codeK P (.region id l.toArray true) sl m Q := by
  simp only [codeK]
  subst hn
  unfold NDraw
  intro id w0 S a w hs
  unfold NOrdH at h
  refine wp_region_held (S := HpS F) h1 ?_
  have := h w0 S a { w with drawn := w.drawn + 1 } ⟨hs.slots, hs.defers, hs.mem.keep (Nat.le_refl _) (fun _ _ _ _ => rfl), ⟨hs.fr.os, hs.fr.tape, hs.fr.output, hs.fr.size, hs.fr.block⟩, hs.fresh⟩
  show wpAnyH P .any l.toArray (OrdQ w0 S (normS Q)) _ _ _ a _
  simpa [listedOf] using this
theorem HpS.mem {F : Heap} {w : World} (h : HpS F w) : MemOk [hpB F] w := ⟨fun k hk => by rw [List.mem_singleton.1 hk]; exact h, List.pairwise_singleton _ _⟩
section
variable {F : Heap} {l : List Oper} {n i : Nat} {done : List Nat} {sl : List AV} {m : List Blk} {k : List AV → List Blk → Prop}
theorem ordH_first {o : Oper} {v : AV} {sl' : List AV} (hn : nextH P sl done 0 l = some (i, o)) (hc : chkP l done i = true) (hF : m[0]? = some (hpB F))
    (h : NOrdH P F l n (i :: done) sl' m k) {w0 : World} {S : Own} {a : Act} {w : World} (hs : Sim w0 S sl m a w) (hy : YieldsIf P l.toArray (HpS F) o v.den a) (hs' : SlotsOk sl' (a.put o.dst v.den).tmps) :
    wpAnyH P .any l.toArray (OrdQ w0 S k) (HpS F) (n + 1) (listedOf l.length done) a w := by
  obtain ⟨t, ht, ho⟩ := nextH_at l 0 i o hn
  obtain rfl : i = t := by omega
  simp only [chkP, Bool.and_eq_true] at hc
  obtain ⟨⟨h1, h2⟩, h3⟩ := hc
  have ho' : l.toArray[i]? = some o := by simpa using ho
  unfold NOrdH at h
  exact wpAnyH_take ho' h1 h2 h3 (fun c a w hq => by cases hq.1) hy (hs.mem.holds _ (List.mem_of_getElem? hF)) (h w0 S _ w (hs.step hs' hs.mem hs.fr hs.fresh))
theorem st_ordH1 {d : Option Tmp} {op : Op} {t : TypeId} {p : String} {e : Array Edge} (hn : nextH P sl done 0 l = some (i, ⟨d, op, t, p, e, none⟩)) (hc : chkP l done i = true) (hF : m[0]? = some (hpB F))
    (h : ∀ K : List AV → Prop, (∀ sl, NOrdH P F l n (i :: done) sl m k → K sl) → opV P sl [hpB F] op fun v => dstK sl d v K) : NOrdH P F l (n + 1) done sl m k := by
  unfold NOrdH
  intro w0 S a w hs
  obtain ⟨v, h1, h2⟩ := opV_spec hs.slots (h _ fun _ h => h)
  obtain ⟨sl', h3, h4⟩ := dstK_spec h1 hs.slots
  exact ordH_first hn hc hF h3 hs (.inl ⟨rfl, fun w hw => h2 w hw.mem _ rfl⟩) h4
theorem st_ordH1g {d : Option Tmp} {op : Op} {t : TypeId} {p : String} {e : Array Edge} {g : Nat × Bool} (hn : nextH P sl done 0 l = some (i, ⟨d, op, t, p, e, some g⟩)) (hc : chkP l done i = true) (hF : m[0]? = some (hpB F))
    (h : ∀ K : List AV → Prop, (∀ sl, NOrdH P F l n (i :: done) sl m k → K sl) → guardK l.toArray sl g.1 g.2 (opV P sl [hpB F] op fun v => dstK sl d v K) (dstK sl d (.raw undef) K)) : NOrdH P F l (n + 1) done sl m k := by
  unfold NOrdH
  intro w0 S a w hs
  rcases guardK_spec (h _ fun _ h => h) hs.slots (o := ⟨d, op, t, p, e, some g⟩) rfl with ⟨hw, h⟩ | ⟨hw, h⟩
  · obtain ⟨v, h1, h2⟩ := opV_spec hs.slots h
    obtain ⟨sl', h3, h4⟩ := dstK_spec h1 hs.slots
    exact ordH_first hn hc hF h3 hs (.inl ⟨hw, fun w hw => h2 w hw.mem _ rfl⟩) h4
  · obtain ⟨sl', h3, h4⟩ := dstK_spec h hs.slots
    exact ordH_first (v := .raw undef) hn hc hF h3 hs (.inr ⟨hw, rfl⟩) h4
theorem st_ordHA {rs : List (Nat × Oper)} (_hn : nextH P sl done 0 l = none) (hr : readys done 0 l = rs) (hc : chkR l done rs = true) (hne : rs ≠ []) (h : NEachH P F l n done sl m k rs) : NOrdH P F l (n + 1) done sl m k := by
  unfold NOrdH
  intro w0 S a w hs
  have hc : Region.ready .any l.toArray (listedOf l.length done) = rs.map (·.1) := by simpa [chkR] using hc
  refine wpAnyH_all hc (fun e => hne (by simpa using e)) fun i hi => ?_
  obtain ⟨x, hx, rfl⟩ := List.mem_map.1 hi
  obtain ⟨t, h1, h2⟩ := readys_at l 0 x (hr ▸ hx)
  unfold NEachH at h
  exact h x hx w0 S a w hs (by rw [h1]; simpa using h2)
theorem st_ordH0 (_hr : readys done 0 l = []) (hc : chkR l done [] = true) (h : k sl m) : NOrdH P F l n done sl m k := by
  unfold NOrdH
  intro w0 S a w hs
  have hc : Region.ready .any l.toArray (listedOf l.length done) = [] := by simpa [chkR] using hc
  exact wpAnyH_done hc ⟨rfl, sl, m, h, hs⟩ n
theorem st_eachH0 : NEachH P F l n done sl m k [] := by unfold NEachH; intro x hx; cases hx
theorem st_eachH {rs : List (Nat × Oper)} {d : Option Tmp} {op : Op} {t : TypeId} {p : String} {e : Array Edge}
    (h : ∀ K : List AV → List Blk → Prop, (∀ sl m, NOrdH P F l n (i :: done) sl m k → K sl m) → opM P sl m op fun v m' => NH (m'[0]? = some (hpB F)) (dstK sl d v fun sl' => K sl' m')) (hr : NEachH P F l n done sl m k rs) : NEachH P F l n done sl m k ((i, ⟨d, op, t, p, e, none⟩) :: rs) := by
  unfold NEachH at *
  intro x hx
  rcases List.mem_cons.1 hx with rfl | hx
  · intro w0 S a w hs ho
    unfold wpOp
    simp only [ho]
    rw [if_pos (show Region.wanted ⟨d, op, t, p, e, none⟩ (yielded l.toArray a.tmps) = true from rfl)]
    refine .inl (opM_spec hs.slots hs.mem hs.fr hs.fresh (o := ⟨d, op, t, p, e, none⟩) (h _ fun _ _ h => h) fun v m' w' hl => ?_)
    obtain ⟨h0, hk⟩ := NH_iff.1 hl.k
    obtain ⟨sl', h1, h2⟩ := dstK_spec hk hs.slots
    unfold NOrdH at h1
    exact ⟨hl.mem.holds _ (List.mem_of_getElem? h0), h1 w0 S _ _ (hs.step h2 hl.mem hl.fr hl.fresh)⟩
  · exact hr x hx
theorem st_eachHg {rs : List (Nat × Oper)} {d : Option Tmp} {op : Op} {t : TypeId} {p : String} {e : Array Edge} {g : Nat × Bool} (hF : m[0]? = some (hpB F))
    (h : ∀ K : List AV → List Blk → Prop, (∀ sl m, NOrdH P F l n (i :: done) sl m k → K sl m) → guardK l.toArray sl g.1 g.2 (opM P sl m op fun v m' => NH (m'[0]? = some (hpB F)) (dstK sl d v fun sl' => K sl' m')) (dstK sl d (.raw undef) fun sl' => K sl' m)) (hr : NEachH P F l n done sl m k rs) : NEachH P F l n done sl m k ((i, ⟨d, op, t, p, e, some g⟩) :: rs) := by
  unfold NEachH at *
  intro x hx
  rcases List.mem_cons.1 hx with rfl | hx
  · intro w0 S a w hs ho
    unfold wpOp
    simp only [ho]
    rcases guardK_spec (h _ fun _ _ h => h) hs.slots (o := ⟨d, op, t, p, e, some g⟩) rfl with ⟨hw, h⟩ | ⟨hw, h⟩
    · rw [if_pos hw]
      refine .inl (opM_spec hs.slots hs.mem hs.fr hs.fresh (o := ⟨d, op, t, p, e, some g⟩) h fun v m' w' hl => ?_)
      obtain ⟨h0, hk⟩ := NH_iff.1 hl.k
      obtain ⟨sl', h1, h2⟩ := dstK_spec hk hs.slots
      unfold NOrdH at h1
      exact ⟨hl.mem.holds _ (List.mem_of_getElem? h0), h1 w0 S _ _ (hs.step h2 hl.mem hl.fr hl.fresh)⟩
    · rw [if_neg (by simp [hw])]
      obtain ⟨sl', h3, h4⟩ := dstK_spec h hs.slots
      unfold NOrdH at h3
      exact ⟨hs.mem.holds _ (List.mem_of_getElem? hF), h3 w0 S _ _ (hs.step (v := undef) h4 hs.mem hs.fr hs.fresh)⟩
  · exact hr x hx
/-! ### In the order of the text, as long as that serves -/
def downTo : Nat → List Nat
  | 0 => []
  | j + 1 => j :: downTo j
/-- What is left, from the j-th on. -/
@[irreducible] def NOrdR (P : Program) (F : Heap) (l : List Oper) (n j : Nat) (rest : List Oper) (sl : List AV) (m : List Blk) (k : List AV → List Blk → Prop) : Prop :=
  l.drop j = rest → NOrdH P F l n (downTo j) sl m k
theorem st_orderR {Q : Post} {id : Nat} (hF : m[0]? = some (hpB F)) (h1 : P.follows .mixedOrders = true) (n : Nat) (hn : l.length = n) (h : NOrdR P F l n 0 l sl m (normS Q)) : codeK P (.region id l.toArray true) sl m Q := by
  unfold NOrdR at h
  exact st_orderH hF h1 n hn (h rfl)
theorem st_ordRout {j : Nat} {rest : List Oper} (h : NOrdH P F l n (downTo j) sl m k) : NOrdR P F l n j rest sl m k := by
  unfold NOrdR
  intro _
  exact h
theorem drop_head {j : Nat} {o : Oper} {rest : List Oper} (h : l.drop j = o :: rest) : l[j]? = some o ∧ l.drop (j + 1) = rest := by
  constructor
  · have := congrArg (fun t => t[0]?) h
    simpa using this
  · rw [← List.drop_drop, h]; rfl
def easyOp (P : Program) (sl : List AV) (op : Op) : Bool := pureOp P op || heapLoad sl op
theorem ordR_first {j : Nat} {o : Oper} {v : AV} {sl' : List AV} (ho : l[j]? = some o) (hc : chkP l (downTo j) j = true) (hF : m[0]? = some (hpB F))
    (h : NOrdH P F l n (downTo (j + 1)) sl' m k) {w0 : World} {S : Own} {a : Act} {w : World} (hs : Sim w0 S sl m a w) (hy : YieldsIf P l.toArray (HpS F) o v.den a) (hs' : SlotsOk sl' (a.put o.dst v.den).tmps) :
    wpAnyH P .any l.toArray (OrdQ w0 S k) (HpS F) (n + 1) (listedOf l.length (downTo j)) a w := by
  simp only [chkP, Bool.and_eq_true] at hc
  obtain ⟨⟨h1, h2⟩, h3⟩ := hc
  have ho' : l.toArray[j]? = some o := by simpa using ho
  unfold NOrdH at h
  exact wpAnyH_take ho' h1 h2 h3 (fun c a w hq => by cases hq.1) hy (hs.mem.holds _ (List.mem_of_getElem? hF)) (h w0 S _ w (hs.step hs' hs.mem hs.fr hs.fresh))
theorem st_ordR1 {j : Nat} {rest : List Oper} {d : Option Tmp} {op : Op} {t : TypeId} {p : String} {e : Array Edge} (_he : easyOp P sl op = true) (hc : chkP l (downTo j) j = true) (hF : m[0]? = some (hpB F))
    (h : ∀ K : List AV → Prop, (∀ sl, NOrdR P F l n (j + 1) rest sl m k → K sl) → opV P sl [hpB F] op fun v => dstK sl d v K) : NOrdR P F l (n + 1) j (⟨d, op, t, p, e, none⟩ :: rest) sl m k := by
  unfold NOrdR
  intro hd
  obtain ⟨ho, hd2⟩ := drop_head hd
  unfold NOrdH
  intro w0 S a w hs
  obtain ⟨v, h1, h2⟩ := opV_spec hs.slots (h _ fun _ h => h)
  obtain ⟨sl', h3, h4⟩ := dstK_spec h1 hs.slots
  unfold NOrdR at h3
  exact ordR_first ho hc hF (h3 hd2) hs (.inl ⟨rfl, fun w hw => h2 w hw.mem _ rfl⟩) h4
theorem st_ordR1g {j : Nat} {rest : List Oper} {d : Option Tmp} {op : Op} {t : TypeId} {p : String} {e : Array Edge} {g : Nat × Bool} (_he : easyOp P sl op = true) (hc : chkP l (downTo j) j = true) (hF : m[0]? = some (hpB F))
    (h : ∀ K : List AV → Prop, (∀ sl, NOrdR P F l n (j + 1) rest sl m k → K sl) → guardK l.toArray sl g.1 g.2 (opV P sl [hpB F] op fun v => dstK sl d v K) (dstK sl d (.raw undef) K)) : NOrdR P F l (n + 1) j (⟨d, op, t, p, e, some g⟩ :: rest) sl m k := by
  unfold NOrdR
  intro hd
  obtain ⟨ho, hd2⟩ := drop_head hd
  unfold NOrdH
  intro w0 S a w hs
  rcases guardK_spec (h _ fun _ h => h) hs.slots (o := ⟨d, op, t, p, e, some g⟩) rfl with ⟨hw, h⟩ | ⟨hw, h⟩
  · obtain ⟨v, h1, h2⟩ := opV_spec hs.slots h
    obtain ⟨sl', h3, h4⟩ := dstK_spec h1 hs.slots
    unfold NOrdR at h3
    exact ordR_first ho hc hF (h3 hd2) hs (.inl ⟨hw, fun w hw => h2 w hw.mem _ rfl⟩) h4
  · obtain ⟨sl', h3, h4⟩ := dstK_spec h hs.slots
    unfold NOrdR at h3
    exact ordR_first (v := .raw undef) ho hc hF (h3 hd2) hs (.inr ⟨hw, rfl⟩) h4
/-- No other one may come up. -/
def chkS (l : List Oper) (j : Nat) : Bool := Region.ready .any l.toArray (listedOf l.length (downTo j)) == [j]
theorem ordR_sole {j : Nat} {o : Oper} (ho : l[j]? = some o) (hc : chkS l j = true) {w0 : World} {S : Own} {a : Act} {w : World} (_hs : Sim w0 S sl m a w)
    (h : wpOp P l.toArray (OrdQ w0 S k) j (fun a w => HpS F w ∧ wpAnyH P .any l.toArray (OrdQ w0 S k) (HpS F) n (listedOf l.length (downTo (j + 1))) a w) a w) :
    wpAnyH P .any l.toArray (OrdQ w0 S k) (HpS F) (n + 1) (listedOf l.length (downTo j)) a w := by
  have hc : Region.ready .any l.toArray (listedOf l.length (downTo j)) = [j] := by simpa [chkS] using hc
  refine wpAnyH_all hc (by simp) fun i hi => ?_
  obtain rfl := List.mem_singleton.1 hi
  exact h
theorem st_ordR2 {j : Nat} {rest : List Oper} {d : Option Tmp} {op : Op} {t : TypeId} {p : String} {e : Array Edge} (hc : chkS l j = true)
    (h : ∀ K : List AV → List Blk → Prop, (∀ sl m, NOrdR P F l n (j + 1) rest sl m k → K sl m) → opM P sl m op fun v m' => NH (m'[0]? = some (hpB F)) (dstK sl d v fun sl' => K sl' m')) : NOrdR P F l (n + 1) j (⟨d, op, t, p, e, none⟩ :: rest) sl m k := by
  unfold NOrdR
  intro hd
  obtain ⟨ho, hd2⟩ := drop_head hd
  unfold NOrdH
  intro w0 S a w hs
  refine ordR_sole ho hc hs ?_
  unfold wpOp
  have ho' : l.toArray[j]? = some ⟨d, op, t, p, e, none⟩ := by simpa using ho
  simp only [ho']
  rw [if_pos (show Region.wanted ⟨d, op, t, p, e, none⟩ (yielded l.toArray a.tmps) = true from rfl)]
  refine .inl (opM_spec hs.slots hs.mem hs.fr hs.fresh (o := ⟨d, op, t, p, e, none⟩) (h _ fun _ _ h => h) fun v m' w' hl => ?_)
  obtain ⟨h0, hk⟩ := NH_iff.1 hl.k
  obtain ⟨sl', h1, h2⟩ := dstK_spec hk hs.slots
  unfold NOrdR at h1
  have h1 := h1 hd2
  unfold NOrdH at h1
  exact ⟨hl.mem.holds _ (List.mem_of_getElem? h0), h1 w0 S _ _ (hs.step h2 hl.mem hl.fr hl.fresh)⟩
theorem st_ordR2g {j : Nat} {rest : List Oper} {d : Option Tmp} {op : Op} {t : TypeId} {p : String} {e : Array Edge} {g : Nat × Bool} (hc : chkS l j = true) (hF : m[0]? = some (hpB F))
    (h : ∀ K : List AV → List Blk → Prop, (∀ sl m, NOrdR P F l n (j + 1) rest sl m k → K sl m) → guardK l.toArray sl g.1 g.2 (opM P sl m op fun v m' => NH (m'[0]? = some (hpB F)) (dstK sl d v fun sl' => K sl' m')) (dstK sl d (.raw undef) fun sl' => K sl' m)) : NOrdR P F l (n + 1) j (⟨d, op, t, p, e, some g⟩ :: rest) sl m k := by
  unfold NOrdR
  intro hd
  obtain ⟨ho, hd2⟩ := drop_head hd
  unfold NOrdH
  intro w0 S a w hs
  refine ordR_sole ho hc hs ?_
  unfold wpOp
  have ho' : l.toArray[j]? = some ⟨d, op, t, p, e, some g⟩ := by simpa using ho
  simp only [ho']
  rcases guardK_spec (h _ fun _ _ h => h) hs.slots (o := ⟨d, op, t, p, e, some g⟩) rfl with ⟨hw, h⟩ | ⟨hw, h⟩
  · rw [if_pos hw]
    refine .inl (opM_spec hs.slots hs.mem hs.fr hs.fresh (o := ⟨d, op, t, p, e, some g⟩) h fun v m' w' hl => ?_)
    obtain ⟨h0, hk⟩ := NH_iff.1 hl.k
    obtain ⟨sl', h1, h2⟩ := dstK_spec hk hs.slots
    unfold NOrdR at h1
    have h1 := h1 hd2
    unfold NOrdH at h1
    exact ⟨hl.mem.holds _ (List.mem_of_getElem? h0), h1 w0 S _ _ (hs.step h2 hl.mem hl.fr hl.fresh)⟩
  · rw [if_neg (by simp [hw])]
    obtain ⟨sl', h3, h4⟩ := dstK_spec h hs.slots
    unfold NOrdR at h3
    have h3 := h3 hd2
    unfold NOrdH at h3
    exact ⟨hs.mem.holds _ (List.mem_of_getElem? hF), h3 w0 S _ _ (hs.step (v := undef) h4 hs.mem hs.fr hs.fresh)⟩
theorem st_ordR0 {j : Nat} (hc : chkR l (downTo j) [] = true) (h : k sl m) : NOrdR P F l n j [] sl m k := by
  unfold NOrdR NOrdH
  intro _ w0 S a w hs
  have hc : Region.ready .any l.toArray (listedOf l.length (downTo j)) = [] := by simpa [chkR] using hc
  exact wpAnyH_done hc ⟨rfl, sl, m, h, hs⟩ n
end
end
theorem gNOH {P : Program} {F : Heap} {l : List Oper} {n : Nat} {sl : List AV} {m : List Blk} {k : List AV → List Blk → Prop} {done : List Nat} (h : NOrdH P F l n done sl m k) : NOrdH P F l n done sl m k := h
theorem gNEH {P : Program} {F : Heap} {l : List Oper} {n : Nat} {sl : List AV} {m : List Blk} {k : List AV → List Blk → Prop} {done : List Nat} {rs : List (Nat × Oper)} (h : NEachH P F l n done sl m k rs) : NEachH P F l n done sl m k rs := h
theorem gNRH {P : Program} {F : Heap} {l : List Oper} {n : Nat} {sl : List AV} {m : List Blk} {k : List AV → List Blk → Prop} {j : Nat} {rest : List Oper} (h : NOrdR P F l n j rest sl m k) : NOrdR P F l n j rest sl m k := h
end Go.Sx
