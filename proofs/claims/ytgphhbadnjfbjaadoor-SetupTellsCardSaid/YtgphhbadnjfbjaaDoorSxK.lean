import Derived.Test.YtgphhbadnjfbjaaDoorSxC
import Derived.OrdersHeld
namespace Go.Sx
set_option linter.unusedVariables false
section
variable {P:Program}
def inKept (js:List Nat) (H:List Blk) (sl:List AV) (t:Nat):Bool :=
  match sl[t]? with
  | some (.hp _ _)=>!js.contains 0
  | some (.hs _ _)=>!js.contains 0
  | some (.ptr j _ _)=>!js.contains j&&decide (j<H.length)
  | some (.sl j _ _)=>!js.contains j&&decide (j<H.length)
  | some (.view j _ _ _ _)=>!js.contains j&&decide (j<H.length)
  | some (.raw _)=>true
  | _=>false
def keptLoad (js:List Nat) (H:List Blk) (sl:List AV):Op→Bool
  | .load _ (.tmp t)=>inKept js H sl t
  | .indexAddr _ (.tmp t) _=>inKept js H sl t
  | .slice _ (.tmp t) _ _ _=>inKept js H sl t
  | _=>false
def lenOut (js:List Nat) (H:List Blk) (sl:List AV):Op→Bool
  | .call c=>match c.callee,c.args.toList with
    | .builtin .len,[.tmp t]=>match sl[t]? with
      | some (.sl j _ _)=>js.contains j||decide (H.length≤j)
      | some (.view j _ _ _ _)=>js.contains j||decide (H.length≤j)
      | _=>false
    | _,_=>false
  | _=>false
def easyK (P:Program) (js:List Nat) (H:List Blk) (sl:List AV) (op:Op):Bool:=(pureOp P op&&!lenOut js H sl op)||keptLoad js H sl op
def Kept (js:List Nat) (H m:List Blk):Prop:=(hideF js 0 m).take H.length=H
theorem Kept.mem {js:List Nat} {H m:List Blk} (h:Kept js H m) {w:World} (hm:MemOk m w):MemOk H w:=by
  have h1:=hideF_ok (js:=js) 0 hm
  exact ((MemFits.pre H.length h) w h1).1
def nextK (P:Program) (js:List Nat) (H:List Blk) (sl:List AV) (done:List Nat):Nat→List Oper→Option (Nat × Oper)
  | _,[]=>none
  | i,o::os=>match done.contains i,readyO o done,easyK P js H sl o.op with
    | false,true,true=>some (i,o)
    | _,_,_=>nextK P js H sl done (i+1) os
theorem nextK_at {js:List Nat} {H:List Blk} {sl:List AV} {done:List Nat}:∀ (os:List Oper) (i j:Nat) (o:Oper),nextK P js H sl done i os=some (j,o)→∃ t,j=i+t∧os[t]?=some o
  | [],_,_,_,h=>by simp [nextK] at h
  | x::os,i,j,o,h=>by
    unfold nextK at h
    split at h
    · simp only [Option.some.injEq,Prod.mk.injEq] at h
      obtain ⟨rfl,rfl⟩:=h
      exact ⟨0,rfl,rfl⟩
    · obtain ⟨t,h1,h2⟩:=nextK_at os (i+1) j o h
      exact ⟨t+1,by omega,by simpa using h2⟩
def KpS (H:List Blk) (w:World):Prop:=MemOk H w
@[irreducible] def NOrdK (P:Program) (js:List Nat) (H:List Blk) (l:List Oper) (n:Nat) (done:List Nat) (sl:List AV) (m:List Blk) (k:List AV→List Blk→Prop):Prop :=
  ∀ (w0:World) (S:Own) (a:Act) (w:World),Sim w0 S sl m a w→wpAnyH P .any l.toArray (OrdQ w0 S k) (KpS H) n (listedOf l.length done) a w
@[irreducible] def NEachK (P:Program) (js:List Nat) (H:List Blk) (l:List Oper) (n:Nat) (done:List Nat) (sl:List AV) (m:List Blk) (k:List AV→List Blk→Prop) (rs:List (Nat × Oper)):Prop :=
  ∀ x∈rs,∀ (w0:World) (S:Own) (a:Act) (w:World),Sim w0 S sl m a w→l.toArray[x.1]?=some x.2→wpOp P l.toArray (OrdQ w0 S k) x.1 (fun a w=>KpS H w∧wpAnyH P .any l.toArray (OrdQ w0 S k) (KpS H) n (listedOf l.length (x.1::done)) a w) a w
theorem st_orderK {Q:Post} {sl:List AV} {m:List Blk} {id:Nat} {l:List Oper} {js:List Nat} {H:List Blk} (hF:Kept js H m) (h1:P.follows .mixedOrders=true) (n:Nat) (hn:l.length=n) (h:NOrdK P js H l n [] sl m (normS Q)):codeK P (.region id l.toArray true) sl m Q:=by
  simp only [codeK]
  subst hn
  unfold NDraw
  intro id w0 S a w hs
  unfold NOrdK at h
  refine wp_region_held (S:=KpS H) h1 ?_
  have:=h w0 S a { w with drawn:=w.drawn+1 } ⟨hs.slots,hs.defers,hs.mem.keep (Nat.le_refl _) (fun _ _ _ _=>rfl),⟨hs.fr.os,hs.fr.tape,hs.fr.output,hs.fr.size,hs.fr.block⟩,hs.fresh⟩
  show wpAnyH P .any l.toArray (OrdQ w0 S (normS Q)) _ _ _ a _
  simpa [listedOf] using this
section
variable {js:List Nat} {H:List Blk} {l:List Oper} {n i:Nat} {done:List Nat} {sl:List AV} {m:List Blk} {k:List AV→List Blk→Prop}
theorem ordK_first {o:Oper} {v:AV} {sl':List AV} (hn:nextK P js H sl done 0 l=some (i,o)) (hc:chkP l done i=true) (hF:Kept js H m)
    (h:NOrdK P js H l n (i::done) sl' m k) {w0:World} {S:Own} {a:Act} {w:World} (hs:Sim w0 S sl m a w) (hy:YieldsIf P l.toArray (KpS H) o v.den a) (hs':SlotsOk sl' (a.put o.dst v.den).tmps) :
    wpAnyH P .any l.toArray (OrdQ w0 S k) (KpS H) (n+1) (listedOf l.length done) a w:=by
  obtain ⟨t,ht,ho⟩:=nextK_at l 0 i o hn
  obtain rfl:i=t:=by omega
  simp only [chkP,Bool.and_eq_true] at hc
  obtain ⟨⟨h1,h2⟩,h3⟩:=hc
  have ho':l.toArray[i]?=some o:=by simpa using ho
  unfold NOrdK at h
  exact wpAnyH_take ho' h1 h2 h3 (fun c a w hq=>by cases hq.1) hy (hF.mem hs.mem) (h w0 S _ w (hs.step hs' hs.mem hs.fr hs.fresh))
theorem st_ordK1 {d:Option Tmp} {op:Op} {t:TypeId} {p:String} {e:Array Edge} (hn:nextK P js H sl done 0 l=some (i,⟨d,op,t,p,e,none⟩)) (hc:chkP l done i=true) (hF:Kept js H m)
    (h:∀ K:List AV→Prop,(∀ sl,NOrdK P js H l n (i::done) sl m k→K sl)→opV P sl H op fun v=>dstK sl d v K):NOrdK P js H l (n+1) done sl m k:=by
  unfold NOrdK
  intro w0 S a w hs
  obtain ⟨v,h1,h2⟩:=opV_spec hs.slots (h _ fun _ h=>h)
  obtain ⟨sl',h3,h4⟩:=dstK_spec h1 hs.slots
  exact ordK_first hn hc hF h3 hs (.inl ⟨rfl,fun w hw=>h2 w hw _ rfl⟩) h4
theorem st_ordK1g {d:Option Tmp} {op:Op} {t:TypeId} {p:String} {e:Array Edge} {g:Nat × Bool} (hn:nextK P js H sl done 0 l=some (i,⟨d,op,t,p,e,some g⟩)) (hc:chkP l done i=true) (hF:Kept js H m)
    (h:∀ K:List AV→Prop,(∀ sl,NOrdK P js H l n (i::done) sl m k→K sl)→guardK l.toArray sl g.1 g.2 (opV P sl H op fun v=>dstK sl d v K) (dstK sl d (.raw undef) K)):NOrdK P js H l (n+1) done sl m k:=by
  unfold NOrdK
  intro w0 S a w hs
  rcases guardK_spec (h _ fun _ h=>h) hs.slots (o:=⟨d,op,t,p,e,some g⟩) rfl with ⟨hw,h⟩ | ⟨hw,h⟩
  · obtain ⟨v,h1,h2⟩:=opV_spec hs.slots h
    obtain ⟨sl',h3,h4⟩:=dstK_spec h1 hs.slots
    exact ordK_first hn hc hF h3 hs (.inl ⟨hw,fun w hw=>h2 w hw _ rfl⟩) h4
  · obtain ⟨sl',h3,h4⟩:=dstK_spec h hs.slots
    exact ordK_first (v:=.raw undef) hn hc hF h3 hs (.inr ⟨hw,rfl⟩) h4
theorem st_ordKA {rs:List (Nat × Oper)} (_hn:nextK P js H sl done 0 l=none) (hr:readys done 0 l=rs) (hc:chkR l done rs=true) (hne:rs≠[]) (h:NEachK P js H l n done sl m k rs):NOrdK P js H l (n+1) done sl m k:=by
  unfold NOrdK
  intro w0 S a w hs
  have hc:Region.ready .any l.toArray (listedOf l.length done)=rs.map (·.1):=by simpa [chkR] using hc
  refine wpAnyH_all hc (fun e=>hne (by simpa using e)) fun i hi=>?_
  obtain ⟨x,hx,rfl⟩:=List.mem_map.1 hi
  obtain ⟨t,h1,h2⟩:=readys_at l 0 x (hr ▸ hx)
  unfold NEachK at h
  exact h x hx w0 S a w hs (by rw [h1];simpa using h2)
theorem st_ordK0 (_hr:readys done 0 l=[]) (hc:chkR l done []=true) (h:k sl m):NOrdK P js H l n done sl m k:=by
  unfold NOrdK
  intro w0 S a w hs
  have hc:Region.ready .any l.toArray (listedOf l.length done)=[]:=by simpa [chkR] using hc
  exact wpAnyH_done hc ⟨rfl,sl,m,h,hs⟩ n
theorem st_eachK0:NEachK P js H l n done sl m k []:=by unfold NEachK;intro x hx;cases hx
theorem st_eachK {rs:List (Nat × Oper)} {d:Option Tmp} {op:Op} {t:TypeId} {p:String} {e:Array Edge}
    (h:∀ K:List AV→List Blk→Prop,(∀ sl m,NOrdK P js H l n (i::done) sl m k→K sl m)→opM P sl m op fun v m'=>NH (Kept js H m') (dstK sl d v fun sl'=>K sl' m')) (hr:NEachK P js H l n done sl m k rs):NEachK P js H l n done sl m k ((i,⟨d,op,t,p,e,none⟩)::rs):=by
  unfold NEachK at *
  intro x hx
  rcases List.mem_cons.1 hx with rfl | hx
  · intro w0 S a w hs ho
    unfold wpOp
    simp only [ho]
    rw [if_pos (show Region.wanted ⟨d,op,t,p,e,none⟩ (yielded l.toArray a.tmps)=true from rfl)]
    refine .inl (opM_spec hs.slots hs.mem hs.fr hs.fresh (o:=⟨d,op,t,p,e,none⟩) (h _ fun _ _ h=>h) fun v m' w' hl=>?_)
    obtain ⟨h0,hk⟩:=NH_iff.1 hl.k
    obtain ⟨sl',h1,h2⟩:=dstK_spec hk hs.slots
    unfold NOrdK at h1
    exact ⟨h0.mem hl.mem,h1 w0 S _ _ (hs.step h2 hl.mem hl.fr hl.fresh)⟩
  · exact hr x hx
theorem st_eachKg {rs:List (Nat × Oper)} {d:Option Tmp} {op:Op} {t:TypeId} {p:String} {e:Array Edge} {g:Nat × Bool} (hF:Kept js H m)
    (h:∀ K:List AV→List Blk→Prop,(∀ sl m,NOrdK P js H l n (i::done) sl m k→K sl m)→guardK l.toArray sl g.1 g.2 (opM P sl m op fun v m'=>NH (Kept js H m') (dstK sl d v fun sl'=>K sl' m')) (dstK sl d (.raw undef) fun sl'=>K sl' m)) (hr:NEachK P js H l n done sl m k rs):NEachK P js H l n done sl m k ((i,⟨d,op,t,p,e,some g⟩)::rs):=by
  unfold NEachK at *
  intro x hx
  rcases List.mem_cons.1 hx with rfl | hx
  · intro w0 S a w hs ho
    unfold wpOp
    simp only [ho]
    rcases guardK_spec (h _ fun _ _ h=>h) hs.slots (o:=⟨d,op,t,p,e,some g⟩) rfl with ⟨hw,h⟩ | ⟨hw,h⟩
    · rw [if_pos hw]
      refine .inl (opM_spec hs.slots hs.mem hs.fr hs.fresh (o:=⟨d,op,t,p,e,some g⟩) h fun v m' w' hl=>?_)
      obtain ⟨h0,hk⟩:=NH_iff.1 hl.k
      obtain ⟨sl',h1,h2⟩:=dstK_spec hk hs.slots
      unfold NOrdK at h1
      exact ⟨h0.mem hl.mem,h1 w0 S _ _ (hs.step h2 hl.mem hl.fr hl.fresh)⟩
    · rw [if_neg (by simp [hw])]
      obtain ⟨sl',h3,h4⟩:=dstK_spec h hs.slots
      unfold NOrdK at h3
      exact ⟨hF.mem hs.mem,h3 w0 S _ _ (hs.step (v:=undef) h4 hs.mem hs.fr hs.fresh)⟩
  · exact hr x hx
def downK:Nat→List Nat
  | 0=>[]
  | j+1=>j::downK j
@[irreducible] def NOrdS (P:Program) (js:List Nat) (H:List Blk) (l:List Oper) (n j:Nat) (rest:List Oper) (sl:List AV) (m:List Blk) (k:List AV→List Blk→Prop):Prop :=
  l.drop j=rest→NOrdK P js H l n (downK j) sl m k
theorem st_orderS {Q:Post} {id:Nat} (js:List Nat) (hH:hideF js 0 m=H) (hF:Kept js H m) (h1:P.follows .mixedOrders=true) (n:Nat) (hn:l.length=n) (h:NOrdS P js H l n 0 l sl m (normS Q)):codeK P (.region id l.toArray true) sl m Q:=by
  unfold NOrdS at h
  exact st_orderK hF h1 n hn (h rfl)
theorem st_ordSout {j:Nat} {rest:List Oper} (h:NOrdK P js H l n (downK j) sl m k):NOrdS P js H l n j rest sl m k:=by
  unfold NOrdS
  intro _
  exact h
end
end
theorem gNOK {P:Program} {js:List Nat} {H:List Blk} {l:List Oper} {n:Nat} {sl:List AV} {m:List Blk} {k:List AV→List Blk→Prop} {done:List Nat} (h:NOrdK P js H l n done sl m k):NOrdK P js H l n done sl m k:=h
theorem gNEK {P:Program} {js:List Nat} {H:List Blk} {l:List Oper} {n:Nat} {sl:List AV} {m:List Blk} {k:List AV→List Blk→Prop} {done:List Nat} {rs:List (Nat × Oper)} (h:NEachK P js H l n done sl m k rs):NEachK P js H l n done sl m k rs:=h
theorem gNRK {P:Program} {js:List Nat} {H:List Blk} {l:List Oper} {n:Nat} {sl:List AV} {m:List Blk} {k:List AV→List Blk→Prop} {j:Nat} {rest:List Oper} (h:NOrdS P js H l n j rest sl m k):NOrdS P js H l n j rest sl m k:=h
theorem gKept {js:List Nat} {H m:List Blk} (h:(hideF js 0 m).take H.length=H):Kept js H m:=h
end Go.Sx
