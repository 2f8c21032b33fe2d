import Derived.Test.YtgphhbadnjfbjaaDoorSxX
import Derived.Test.YtgphhbadnjfbjaaDoorSxK
namespace Go.Sx
set_option linter.unusedVariables false
section
variable {P:Program} {js:List Nat} {H:List Blk} {l:List Oper} {n i:Nat} {done:List Nat} {sl:List AV} {m:List Blk} {Q:Post}
def PanicQ (Q:Post):Prop:=∀ ch sl sl' m,Q (.panic ch) sl m→Q (.panic ch) sl' m
@[irreducible] def NOrdY (P:Program) (js:List Nat) (H:List Blk) (l:List Oper) (n:Nat) (done:List Nat) (sl:List AV) (m:List Blk) (Q:Post):Prop :=
  PanicQ Q→∀ (w0:World) (S:Own) (a:Act) (w:World),Sim w0 S sl m a w→wpAnyH P .any l.toArray (OrdX w0 S Q) (KpS H) n (listedOf l.length done) a w
@[irreducible] def NEachY (P:Program) (js:List Nat) (H:List Blk) (l:List Oper) (n:Nat) (done:List Nat) (sl:List AV) (m:List Blk) (Q:Post) (rs:List (Nat × Oper)):Prop :=
  PanicQ Q→∀ x∈rs,∀ (w0:World) (S:Own) (a:Act) (w:World),Sim w0 S sl m a w→l.toArray[x.1]?=some x.2→wpOp P l.toArray (OrdX w0 S Q) x.1 (fun a w=>KpS H w∧wpAnyH P .any l.toArray (OrdX w0 S Q) (KpS H) n (listedOf l.length (x.1::done)) a w) a w
theorem gNOY (h:NOrdY P js H l n done sl m Q):NOrdY P js H l n done sl m Q:=h
theorem gNEY {rs:List (Nat × Oper)} (h:NEachY P js H l n done sl m Q rs):NEachY P js H l n done sl m Q rs:=h
theorem slots_any {sl:List AV} {a b:Act} {d:Option Tmp} {v:Value} (h:SlotsOk sl (a.put d v).tmps):SlotsOk (List.replicate sl.length .any) a.tmps:=by
  refine ⟨?_,fun i x u hx _=>?_⟩
  · rw [List.length_replicate,h.1]
    cases d<;>simp [Act.put]
  · have:=List.eq_of_mem_replicate (List.mem_of_getElem? hx)
    rw [this]
    exact Or.inl rfl
theorem st_orderY {id:Nat} (js:List Nat) (hH:hideF js 0 m=H) (hF:Kept js H m) (h1:P.follows .mixedOrders=true) (n:Nat) (hn:l.length=n) (hp:PanicQ Q) (h:NOrdY P js H l n [] sl m Q):codeX P (.region id l.toArray true) sl m Q:=by
  subst hn
  simp only [codeX]
  unfold NDrawX
  intro id w0 S a w hs
  unfold NOrdY at h
  refine wp_region_held (S:=KpS H) h1 ?_
  have:=h hp w0 S a { w with drawn:=w.drawn+1 } ⟨hs.slots,hs.defers,hs.mem.keep (Nat.le_refl _) (fun _ _ _ _=>rfl),⟨hs.fr.os,hs.fr.tape,hs.fr.output,hs.fr.size,hs.fr.block⟩,hs.fresh⟩
  show wpAnyH P .any l.toArray (OrdX w0 S Q) _ _ _ a _
  simpa [listedOf] using this
theorem ordY_first {o:Oper} {v:AV} {sl':List AV} (hn:nextK P js H sl done 0 l=some (i,o)) (hc:chkP l done i=true) (hF:Kept js H m) (hp:PanicQ Q)
    (h:NOrdY P js H l n (i::done) sl' m Q) {w0:World} {S:Own} {a:Act} {w:World} (hs:Sim w0 S sl m a w) (hy:YieldsIf P l.toArray (KpS H) o v.den a) (hs':SlotsOk sl' (a.put o.dst v.den).tmps) :
    wpAnyH P .any l.toArray (OrdX w0 S Q) (KpS H) (n+1) (listedOf l.length done) a w:=by
  obtain ⟨t,ht,ho⟩:=nextK_at l 0 i o hn
  obtain rfl:i=t:=by omega
  simp only [chkP,Bool.and_eq_true] at hc
  obtain ⟨⟨h1,h2⟩,h3⟩:=hc
  have ho':l.toArray[i]?=some o:=by simpa using ho
  unfold NOrdY at h
  refine wpAnyH_take ho' h1 h2 h3 (fun c b w hq=>?_) hy (hF.mem hs.mem) (h hp w0 S _ w (hs.step hs' hs.mem hs.fr hs.fresh))
  obtain ⟨sl2,m2,hq1,hq2⟩:=hq
  refine ⟨_,m2,hp _ _ _ _ hq1,slots_any (b:=b) hq2.slots,?_,hq2.mem,hq2.fr,hq2.fresh⟩
  have:=hq2.defers
  cases hd:o.dst<;>rw [hd] at this<;>simpa [Act.put] using this
theorem st_ordY1 {d:Option Tmp} {op:Op} {t:TypeId} {p:String} {e:Array Edge} (hn:nextK P js H sl done 0 l=some (i,⟨d,op,t,p,e,none⟩)) (hc:chkP l done i=true) (hF:Kept js H m)
    (h:∀ K:List AV→Prop,(∀ sl,NOrdY P js H l n (i::done) sl m Q→K sl)→opV P sl H op fun v=>dstK sl d v K):NOrdY P js H l (n+1) done sl m Q:=by
  unfold NOrdY
  intro hp w0 S a w hs
  obtain ⟨v,h1,h2⟩:=opV_spec hs.slots (h _ fun _ h=>h)
  obtain ⟨sl',h3,h4⟩:=dstK_spec h1 hs.slots
  exact ordY_first hn hc hF hp h3 hs (.inl ⟨rfl,fun w hw=>h2 w hw _ rfl⟩) h4
theorem st_ordYA {rs:List (Nat × Oper)} (_hn:nextK P js H sl done 0 l=none) (hr:readys done 0 l=rs) (hc:chkR l done rs=true) (hne:rs≠[]) (h:NEachY P js H l n done sl m Q rs):NOrdY P js H l (n+1) done sl m Q:=by
  unfold NOrdY
  intro hp w0 S a w hs
  have hc:Region.ready .any l.toArray (listedOf l.length done)=rs.map (·.1):=by simpa [chkR] using hc
  refine wpAnyH_all hc (fun e=>hne (by simpa using e)) fun i hi=>?_
  obtain ⟨x,hx,rfl⟩:=List.mem_map.1 hi
  obtain ⟨t,h1,h2⟩:=readys_at l 0 x (hr ▸ hx)
  unfold NEachY at h
  exact h hp x hx w0 S a w hs (by rw [h1];simpa using h2)
theorem st_ordY0 (_hr:readys done 0 l=[]) (hc:chkR l done []=true) (h:Q .normal sl m):NOrdY P js H l n done sl m Q:=by
  unfold NOrdY
  intro hp w0 S a w hs
  have hc:Region.ready .any l.toArray (listedOf l.length done)=[]:=by simpa [chkR] using hc
  exact wpAnyH_done hc ⟨sl,m,h,hs⟩ n
theorem st_eachY0:NEachY P js H l n done sl m Q []:=by unfold NEachY;intro _ x hx;cases hx
theorem st_eachY {rs:List (Nat × Oper)} {d:Option Tmp} {op:Op} {t:TypeId} {p:String} {e:Array Edge}
    (h:∀ (K:List AV→List Blk→Prop) (Kp:List PanicEntry→List Blk→Prop),(∀ sl m,NOrdY P js H l n (i::done) sl m Q→K sl m)→(∀ ch m,Q (.panic ch) sl m→Kp ch m)→opX P sl m op (fun v m'=>NH (Kept js H m') (dstK sl d v fun sl'=>K sl' m')) Kp) (hr:NEachY P js H l n done sl m Q rs):NEachY P js H l n done sl m Q ((i,⟨d,op,t,p,e,none⟩)::rs):=by
  unfold NEachY at *
  intro hp x hx
  rcases List.mem_cons.1 hx with rfl | hx
  · intro w0 S a w hs ho
    unfold wpOp
    simp only [ho]
    rw [if_pos (show Region.wanted ⟨d,op,t,p,e,none⟩ (yielded l.toArray a.tmps)=true from rfl)]
    refine .inl (opX_spec hs.slots hs.mem hs.fr hs.fresh (o:=⟨d,op,t,p,e,none⟩) (h _ _ (fun _ _ h=>h) fun _ _ h=>h) (fun v m' w' hl=>?_) fun ch m' w' hl=>⟨sl,m',hl.k,hs.slots,hs.defers,hl.mem,hl.fr,hl.fresh⟩)
    obtain ⟨h0,hk⟩:=NH_iff.1 hl.k
    obtain ⟨sl',h1,h2⟩:=dstK_spec hk hs.slots
    unfold NOrdY at h1
    exact ⟨h0.mem hl.mem,h1 hp w0 S _ _ (hs.step h2 hl.mem hl.fr hl.fresh)⟩
  · exact hr hp x hx
end
end Go.Sx
