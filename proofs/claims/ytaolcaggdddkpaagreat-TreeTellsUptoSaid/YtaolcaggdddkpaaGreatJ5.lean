import Derived.Test.YtaolcaggdddkpaaGreatSxC
import Derived.OrdersHeld
import Derived.Test.YtaolcaggdddkpaaGreatJ1
import Derived.Test.YtaolcaggdddkpaaGreatProg
namespace Go.Sx
set_option linter.unusedVariables false
section
variable {P:Program}
def inKept (js:List Nat) (H:List Blk) (sl:List AV) (t:Nat):Bool :=
 match sl[t]? with
 | some (.hp _ _)=>true
 | some (.hs _ _)=>true
 | some (.ptr j _ _)=>!js.contains j&&decide (j<H.length)
 | some (.sl j _ _)=>!js.contains j&&decide (j<H.length)
 | some (.view j _ _ _ _)=>!js.contains j&&decide (j<H.length)
 | some (.raw _)=>true
 | _=>false
def keptLoad (js:List Nat) (H:List Blk) (sl:List AV):Op→Bool
 | .load _ (.tmp t)=>inKept js H sl t
 | .indexAddr _ (.tmp t) _=>inKept js H sl t
 | .slice _ (.tmp t) _ _ _=>inKept js H sl t
 | _=>false
def lenOut (js:List Nat) (H:List Blk) (sl:List AV):Op→Bool
 | .call c=>match c.callee,c.args.toList with
  | .builtin .len,[.tmp t]=>match sl[t]? with
   | some (.sl j _ _)=>js.contains j||decide (H.length≤j)
   | some (.view j _ _ _ _)=>js.contains j||decide (H.length≤j)
   | _=>false
  | _,_=>false
 | _=>false
def easyK (P:Program) (js:List Nat) (H:List Blk) (sl:List AV) (op:Op):Bool:=(pureOp P op&&!lenOut js H sl op)||keptLoad js H sl op
def Kept (js:List Nat) (H m:List Blk):Prop:=(hideF js 0 m).take H.length=H
theorem Kept.mem {js:List Nat} {H m:List Blk} (h:Kept js H m) {w:World} (hm:MemOk m w):MemOk H w:=by
 have h1:=hideF_ok (js:=js) 0 hm
 exact ((MemFits.pre H.length h) w h1).1
def nextK (P:Program) (js:List Nat) (H:List Blk) (sl:List AV) (done:List Nat):Nat→List Oper→Option (Nat × Oper)
 | _,[]=>none
 | i,o::os=>match done.contains i,readyO o done,easyK P js H sl o.op with
  | false,true,true=>some (i,o)
  | _,_,_=>nextK P js H sl done (i+1) os
theorem nextK_at {js:List Nat} {H:List Blk} {sl:List AV} {done:List Nat}:∀ (os:List Oper) (i j:Nat) (o:Oper),nextK P js H sl done i os=some (j,o)→∃ t,j=i+t∧os[t]?=some o
 | [],_,_,_,h=>by simp [nextK] at h
 | x::os,i,j,o,h=>by
  unfold nextK at h
  split at h
  ·simp only [Option.some.injEq,Prod.mk.injEq] at h
   obtain ⟨rfl,rfl⟩:=h
   exact ⟨0,rfl,rfl⟩
  ·obtain ⟨t,h1,h2⟩:=nextK_at os (i+1) j o h
   exact ⟨t+1,by omega,by simpa using h2⟩
def KpS (H:List Blk) (w:World):Prop:=MemOk H w
@[irreducible] def NOrdK (P:Program) (js:List Nat) (H:List Blk) (l:List Oper) (n:Nat) (done:List Nat) (sl:List AV) (m:List Blk) (k:List AV→List Blk→Prop):Prop :=
 ∀ (w0:World) (S:Own) (a:Act) (w:World),Sim w0 S sl m a w→wpAnyH P .any l.toArray (OrdQ w0 S k) (KpS H) n (listedOf l.length done) a w
@[irreducible] def NEachK (P:Program) (js:List Nat) (H:List Blk) (l:List Oper) (n:Nat) (done:List Nat) (sl:List AV) (m:List Blk) (k:List AV→List Blk→Prop) (rs:List (Nat × Oper)):Prop :=
 ∀ x∈rs,∀ (w0:World) (S:Own) (a:Act) (w:World),Sim w0 S sl m a w→l.toArray[x.1]?=some x.2→wpOp P l.toArray (OrdQ w0 S k) x.1 (fun a w=>KpS H w∧wpAnyH P .any l.toArray (OrdQ w0 S k) (KpS H) n (listedOf l.length (x.1::done)) a w) a w
theorem st_orderK {Q:Post} {sl:List AV} {m:List Blk} {id:Nat} {l:List Oper} {js:List Nat} {H:List Blk} (hF:Kept js H m) (h1:P.follows .mixedOrders=true) (n:Nat) (hn:l.length=n) (h:NOrdK P js H l n [] sl m (normS Q)):codeK P (.region id l.toArray true) sl m Q:=by
 simp only [codeK]
 subst hn
 unfold NDraw
 intro id w0 S a w hs
 unfold NOrdK at h
 refine wp_region_held (S:=KpS H) h1 ?_
 have:=h w0 S a { w with drawn:=w.drawn+1 } ⟨hs.slots,hs.defers,hs.mem.keep (Nat.le_refl _) (fun _ _ _ _=>rfl),⟨hs.fr.os,hs.fr.tape,hs.fr.output,hs.fr.size,hs.fr.block⟩,hs.fresh⟩
 show wpAnyH P .any l.toArray (OrdQ w0 S (normS Q)) _ _ _ a _
 simpa [listedOf] using this
section
variable {js:List Nat} {H:List Blk} {l:List Oper} {n i:Nat} {done:List Nat} {sl:List AV} {m:List Blk} {k:List AV→List Blk→Prop}
theorem ordK_first {o:Oper} {v:AV} {sl':List AV} (hn:nextK P js H sl done 0 l=some (i,o)) (hc:chkP l done i=true) (hF:Kept js H m)
  (h:NOrdK P js H l n (i::done) sl' m k) {w0:World} {S:Own} {a:Act} {w:World} (hs:Sim w0 S sl m a w) (hy:YieldsIf P l.toArray (KpS H) o v.den a) (hs':SlotsOk sl' (a.put o.dst v.den).tmps) :
  wpAnyH P .any l.toArray (OrdQ w0 S k) (KpS H) (n+1) (listedOf l.length done) a w:=by
 obtain ⟨t,ht,ho⟩:=nextK_at l 0 i o hn
 obtain rfl:i=t:=by omega
 simp only [chkP,Bool.and_eq_true] at hc
 obtain ⟨⟨h1,h2⟩,h3⟩:=hc
 have ho':l.toArray[i]?=some o:=by simpa using ho
 unfold NOrdK at h
 exact wpAnyH_take ho' h1 h2 h3 (fun c a w hq=>by cases hq.1) hy (hF.mem hs.mem) (h w0 S _ w (hs.step hs' hs.mem hs.fr hs.fresh))
theorem st_ordK1 {d:Option Tmp} {op:Op} {t:TypeId} {p:String} {e:Array Edge} (hn:nextK P js H sl done 0 l=some (i,⟨d,op,t,p,e,none⟩)) (hc:chkP l done i=true) (hF:Kept js H m)
  (h:∀ K:List AV→Prop,(∀ sl,NOrdK P js H l n (i::done) sl m k→K sl)→opV P sl H op fun v=>dstK sl d v K):NOrdK P js H l (n+1) done sl m k:=by
 unfold NOrdK
 intro w0 S a w hs
 obtain ⟨v,h1,h2⟩:=opV_spec hs.slots (h _ fun _ h=>h)
 obtain ⟨sl',h3,h4⟩:=dstK_spec h1 hs.slots
 exact ordK_first hn hc hF h3 hs (.inl ⟨rfl,fun w hw=>h2 w hw _ rfl⟩) h4
theorem st_ordK1g {d:Option Tmp} {op:Op} {t:TypeId} {p:String} {e:Array Edge} {g:Nat × Bool} (hn:nextK P js H sl done 0 l=some (i,⟨d,op,t,p,e,some g⟩)) (hc:chkP l done i=true) (hF:Kept js H m)
  (h:∀ K:List AV→Prop,(∀ sl,NOrdK P js H l n (i::done) sl m k→K sl)→guardK l.toArray sl g.1 g.2 (opV P sl H op fun v=>dstK sl d v K) (dstK sl d (.raw undef) K)):NOrdK P js H l (n+1) done sl m k:=by
 unfold NOrdK
 intro w0 S a w hs
 rcases guardK_spec (h _ fun _ h=>h) hs.slots (o:=⟨d,op,t,p,e,some g⟩) rfl with ⟨hw,h⟩ | ⟨hw,h⟩
 ·obtain ⟨v,h1,h2⟩:=opV_spec hs.slots h
  obtain ⟨sl',h3,h4⟩:=dstK_spec h1 hs.slots
  exact ordK_first hn hc hF h3 hs (.inl ⟨hw,fun w hw=>h2 w hw _ rfl⟩) h4
 ·obtain ⟨sl',h3,h4⟩:=dstK_spec h hs.slots
  exact ordK_first (v:=.raw undef) hn hc hF h3 hs (.inr ⟨hw,rfl⟩) h4
theorem st_ordKA {rs:List (Nat × Oper)} (_hn:nextK P js H sl done 0 l=none) (hr:readys done 0 l=rs) (hc:chkR l done rs=true) (hne:rs≠[]) (h:NEachK P js H l n done sl m k rs):NOrdK P js H l (n+1) done sl m k:=by
 unfold NOrdK
 intro w0 S a w hs
 have hc:Region.ready .any l.toArray (listedOf l.length done)=rs.map (·.1):=by simpa [chkR] using hc
 refine wpAnyH_all hc (fun e=>hne (by simpa using e)) fun i hi=>?_
 obtain ⟨x,hx,rfl⟩:=List.mem_map.1 hi
 obtain ⟨t,h1,h2⟩:=readys_at l 0 x (hr ▸ hx)
 unfold NEachK at h
 exact h x hx w0 S a w hs (by rw [h1];simpa using h2)
theorem st_ordK0 (_hr:readys done 0 l=[]) (hc:chkR l done []=true) (h:k sl m):NOrdK P js H l n done sl m k:=by
 unfold NOrdK
 intro w0 S a w hs
 have hc:Region.ready .any l.toArray (listedOf l.length done)=[]:=by simpa [chkR] using hc
 exact wpAnyH_done hc ⟨rfl,sl,m,h,hs⟩ n
theorem st_eachK0:NEachK P js H l n done sl m k []:=by unfold NEachK;intro x hx;cases hx
theorem st_eachK {rs:List (Nat × Oper)} {d:Option Tmp} {op:Op} {t:TypeId} {p:String} {e:Array Edge}
  (h:∀ K:List AV→List Blk→Prop,(∀ sl m,NOrdK P js H l n (i::done) sl m k→K sl m)→opM P sl m op fun v m'=>NH (Kept js H m') (dstK sl d v fun sl'=>K sl' m')) (hr:NEachK P js H l n done sl m k rs):NEachK P js H l n done sl m k ((i,⟨d,op,t,p,e,none⟩)::rs):=by
 unfold NEachK at *
 intro x hx
 rcases List.mem_cons.1 hx with rfl | hx
 ·intro w0 S a w hs ho
  unfold wpOp
  simp only [ho]
  rw [if_pos (show Region.wanted ⟨d,op,t,p,e,none⟩ (yielded l.toArray a.tmps)=true from rfl)]
  refine .inl (opM_spec hs.slots hs.mem hs.fr hs.fresh (o:=⟨d,op,t,p,e,none⟩) (h _ fun _ _ h=>h) fun v m' w' hl=>?_)
  obtain ⟨h0,hk⟩:=NH_iff.1 hl.k
  obtain ⟨sl',h1,h2⟩:=dstK_spec hk hs.slots
  unfold NOrdK at h1
  exact ⟨h0.mem hl.mem,h1 w0 S _ _ (hs.step h2 hl.mem hl.fr hl.fresh)⟩
 ·exact hr x hx
theorem st_eachKg {rs:List (Nat × Oper)} {d:Option Tmp} {op:Op} {t:TypeId} {p:String} {e:Array Edge} {g:Nat × Bool} (hF:Kept js H m)
  (h:∀ K:List AV→List Blk→Prop,(∀ sl m,NOrdK P js H l n (i::done) sl m k→K sl m)→guardK l.toArray sl g.1 g.2 (opM P sl m op fun v m'=>NH (Kept js H m') (dstK sl d v fun sl'=>K sl' m')) (dstK sl d (.raw undef) fun sl'=>K sl' m)) (hr:NEachK P js H l n done sl m k rs):NEachK P js H l n done sl m k ((i,⟨d,op,t,p,e,some g⟩)::rs):=by
 unfold NEachK at *
 intro x hx
 rcases List.mem_cons.1 hx with rfl | hx
 ·intro w0 S a w hs ho
  unfold wpOp
  simp only [ho]
  rcases guardK_spec (h _ fun _ _ h=>h) hs.slots (o:=⟨d,op,t,p,e,some g⟩) rfl with ⟨hw,h⟩ | ⟨hw,h⟩
  ·rw [if_pos hw]
   refine .inl (opM_spec hs.slots hs.mem hs.fr hs.fresh (o:=⟨d,op,t,p,e,some g⟩) h fun v m' w' hl=>?_)
   obtain ⟨h0,hk⟩:=NH_iff.1 hl.k
   obtain ⟨sl',h1,h2⟩:=dstK_spec hk hs.slots
   unfold NOrdK at h1
   exact ⟨h0.mem hl.mem,h1 w0 S _ _ (hs.step h2 hl.mem hl.fr hl.fresh)⟩
  ·rw [if_neg (by simp [hw])]
   obtain ⟨sl',h3,h4⟩:=dstK_spec h hs.slots
   unfold NOrdK at h3
   exact ⟨hF.mem hs.mem,h3 w0 S _ _ (hs.step (v:=undef) h4 hs.mem hs.fr hs.fresh)⟩
 ·exact hr x hx
def downK:Nat→List Nat
 | 0=>[]
 | j+1=>j::downK j
@[irreducible] def NOrdS (P:Program) (js:List Nat) (H:List Blk) (l:List Oper) (n j:Nat) (rest:List Oper) (sl:List AV) (m:List Blk) (k:List AV→List Blk→Prop):Prop :=
 l.drop j=rest→NOrdK P js H l n (downK j) sl m k
theorem st_orderS {Q:Post} {id:Nat} (js:List Nat) (hH:hideF js 0 m=H) (hF:Kept js H m) (h1:P.follows .mixedOrders=true) (n:Nat) (hn:l.length=n) (h:NOrdS P js H l n 0 l sl m (normS Q)):codeK P (.region id l.toArray true) sl m Q:=by
 unfold NOrdS at h
 exact st_orderK hF h1 n hn (h rfl)
theorem st_ordSout {j:Nat} {rest:List Oper} (h:NOrdK P js H l n (downK j) sl m k):NOrdS P js H l n j rest sl m k:=by
 unfold NOrdS
 intro _
 exact h
end
end
theorem gNOK {P:Program} {js:List Nat} {H:List Blk} {l:List Oper} {n:Nat} {sl:List AV} {m:List Blk} {k:List AV→List Blk→Prop} {done:List Nat} (h:NOrdK P js H l n done sl m k):NOrdK P js H l n done sl m k:=h
theorem gNEK {P:Program} {js:List Nat} {H:List Blk} {l:List Oper} {n:Nat} {sl:List AV} {m:List Blk} {k:List AV→List Blk→Prop} {done:List Nat} {rs:List (Nat × Oper)} (h:NEachK P js H l n done sl m k rs):NEachK P js H l n done sl m k rs:=h
theorem gNRK {P:Program} {js:List Nat} {H:List Blk} {l:List Oper} {n:Nat} {sl:List AV} {m:List Blk} {k:List AV→List Blk→Prop} {j:Nat} {rest:List Oper} (h:NOrdS P js H l n j rest sl m k):NOrdS P js H l n j rest sl m k:=h
theorem gKept {js:List Nat} {H m:List Blk} (h:(hideF js 0 m).take H.length=H):Kept js H m:=h
end Go.Sx
namespace Go.Proofs.YtaolcaggdddkpaaGreat
open Go.Sx
set_option maxRecDepth 20000
set_option linter.unusedSimpArgs false
set_option linter.unusedVariables false
set_option maxHeartbeats 2000000
namespace Pd
inductive R (F:Heap):T→List Value→Prop where
 | mk (k f v:Int) (l:List T) (A:Option Addr) (cap:Nat) (g:Nat→List Value) (hs:SlOk (.slice A l.length cap) l.length) (h1:∀ (i:Nat) (x:T),l[i]?=some x→R F x (g i))
   (h2:∀ i,i<l.length→(g i).length=4∧CellsF F (addrOf (.slice A l.length cap)) (i*4) (g i)):R F (.mk k f v l) [.int .i64 k,.int .i64 f,.int .i64 v,.slice A l.length cap]
abbrev Row (F:Heap) (v:Value) (l:List T):Prop:=RowF F 4 (R F) v l
def cs (p:T) (u:Value):List AV:=[.int .i64 p.k,.int .i64 p.f,.int .i64 p.v,.hs u p.l.length]
theorem R.inv {F:Heap} {p:T} {us:List Value} (h:R F p us):∃ A cap,Row F (.slice A p.l.length cap) p.l∧us=[.int .i64 p.k,.int .i64 p.f,.int .i64 p.v,.slice A p.l.length cap]:=by
 cases h with
 | mk k f v l A cap g hs h1 h2=>exact ⟨A,cap,⟨hs,fun i x hx=>⟨g i,h1 i x hx,(h2 i (List.getElem?_eq_some_iff.1 hx).1).1,(h2 i (List.getElem?_eq_some_iff.1 hx).1).2⟩⟩,rfl⟩
theorem R.of {F:Heap} {p:T} {A:Option Addr} {cap:Nat} (h:Row F (.slice A p.l.length cap) p.l):R F p [.int .i64 p.k,.int .i64 p.f,.int .i64 p.v,.slice A p.l.length cap]:=by
 obtain ⟨k,f,v,l⟩:=p
 have hg:∀ i:Nat,∃ g:List Value,∀ x,l[i]?=some x→R F x g∧g.length=4∧CellsF F (addrOf (.slice A l.length cap)) (i*4) g:=fun i=>by
  cases hx:l[i]? with
  | none=>exact ⟨[],fun x e=>by cases e⟩
  | some x =>
   obtain ⟨g,h1,h2,h3⟩:=h.at_ i x hx
   exact ⟨g,fun y e=>by cases e;exact ⟨h1,h2,h3⟩⟩
 refine R.mk k f v l A cap (fun i=>Classical.choose (hg i)) h.ok (fun i x hx=>(Classical.choose_spec (hg i) x hx).1) fun i hi=>?_
 have:=Classical.choose_spec (hg i) l[i] (List.getElem?_eq_getElem hi)
 exact ⟨this.2.1,this.2.2⟩
theorem R.mono {F G:Heap} (h:F.le G) {p:T} {us:List Value} (hp:R F p us):R G p us:=by
 induction hp with
 | mk k f v l A cap g hs _ h2 ih=>exact R.mk k f v l A cap g hs ih fun i hi=>⟨(h2 i hi).1,(h2 i hi).2.mono h⟩
theorem Row.mono {F G:Heap} (h:F.le G) {v:Value} {l:List T} (hv:Row F v l):Row G v l:=RowF.mono h (fun _ _ hp=>R.mono h hp) hv
theorem Row.get {F:Heap} {v:Value} {l:List T} (h:Row F v l) {i:Nat} {x:T} (hx:l[i]?=some x):∃ A cap,Row F (.slice A x.l.length cap) x.l ∧
  (F.c ((addrOf v).add (i*4)) (.int .i64 x.k)∧F.c ((addrOf v).add (i*4+1)) (.int .i64 x.f)∧F.c ((addrOf v).add (i*4+2)) (.int .i64 x.v)∧F.c ((addrOf v).add (i*4+3)) (.slice A x.l.length cap)):=by
 obtain ⟨us,h1,_,h2⟩:=h.at_ i x hx
 obtain ⟨A,cap,h3,rfl⟩:=h1.inv
 simp only [CellsF,Nat.add_assoc,Nat.reduceAdd] at h2
 obtain ⟨c0,c1,c2,c3,_⟩:=h2
 exact ⟨A,cap,h3,c0,c1,c2,c3⟩
mutual
def in64:T→Prop
 | .mk k f v l=>((-9223372036854775808≤k∧k≤9223372036854775807)∧(-9223372036854775808≤f∧f≤9223372036854775807)∧(-9223372036854775808≤v∧v≤9223372036854775807))∧in64L l
def in64L:List T→Prop
 | []=>True
 | p::l=>in64 p∧in64L l
end
theorem in64L_iff (l:List T):in64L l↔∀ p∈l,in64 p:=by
 induction l with
 | nil=>simp [in64L]
 | cons p l ih=>simp only [in64L,ih,List.mem_cons,forall_eq_or_imp]
end Pd
section
variable (F:Heap)
theorem size26_c:∀ (n:Nat) (p:Pd.T) (u:Value),Pd.size p≤n→Pd.size p≤4611686018427387904→Pd.Row F u p.l →
  NCall Tryz.prog 81 [.agg (Pd.cs p u)] [hpB F] fun r m=>r = .int .i64 (Pd.size p:Nat)∧m=[hpB F]
 | 0,p,u,hn,_,_=>absurd (Pd.size_pos p) (by omega)
 | n+1,⟨k,f,v,l⟩,u,hn,hs,hu=>by
  refine NCall.fits (K:=fun r m=>r = .int .i64 (Pd.size (.mk k f v l):Nat)∧MemFits m [hpB F]) ?_ fun r m' h=>⟨r,_,rfl,h.2,h.1,rfl⟩
  have hu:Pd.Row F u l:=hu
  have hok:=hu.ok
  have e:Pd.size (.mk k f v l)=1+Pd.sizeL l:=by rw [Pd.size]
  have hll:=Pd.length_le l
  have ih:∀ x∈l,∀ w,Pd.Row F w x.l→_:=fun x hx w hw=>size26_c n x w (by have:=Pd.size_lt (k:=k) (f:=f) (v:=v) hx;omega) (by have:=Pd.size_lt (k:=k) (f:=f) (v:=v) hx;omega) hw
  refine ncall_of Tryz.func81 rfl (by decide) ?_
  show funcK _ _ [.agg [.int .i64 k,.int .i64 f,.int .i64 v,.hs u l.length]] _ _
  (repeat' (first|(with_reducible first|(refine hK _ _ ?_;clear hK K)|(refine hK _ ?_;clear hK K))|((with_reducible refine z25 ?_);intro K hK;(conv=>whnf))|(with_reducible refine z0 ?_)|((first|(with_reducible refine NN.a5 ?_)|((with_reducible refine NH.mk ?s ?_);case s=>(and_intros<;>first|with_reducible rfl|omega)))<;>(conv=>whnf))|(with_reducible first|refine z3 ?_|refine z4 ?_|refine z5 ?_|refine z1 ?_|refine z2 ?_)|((with_reducible refine gF ?_);(refine z33 rfl ?_;intro K hK;(conv=>whnf)))|((intro _;skip)<;>(conv=>whnf))))
  refine st_auto (α:=Nat) (fun i=>i≤l.length) (fun i=>[.keep,.keep,.keep,.set (.int .i64 (1+Pd.sizeL (l.take i):Nat)),.keep,.drop,.keep,.keep,.keep,.set (.int .i64 i),.drop,.drop,.drop,.drop,.drop,.drop,.drop,.drop,.keep]) (fun _=>[]) (fun i=>l.length - i) 0 (Nat.zero_le _) ?_ (MemFits.eq rfl) ?_
  ·repeat (first|exact FitsSl.nil|refine FitsSl.any ?_|refine FitsSl.cons (Fit1.int (by  simp [Pd.sizeL])) ?_|refine FitsSl.cons (Fit1.same (by intro h;cases h) (by with_reducible rfl)) ?_)
  (intro i hi;intro K hK;(conv=>whnf);refine hK _ _ ?_;clear hK K)
  have hle:=Pd.sizeL_le (l:=l) (k:=i)
  by_cases hlt:i<l.length
  ·have hx:l[i]?=some l[i]:=List.getElem?_eq_getElem hlt
   obtain ⟨A,cap,hA,c0,c1,c2,c3⟩:=hu.get hx
   have hmem:=List.mem_of_getElem? hx
   have hnx:=Pd.sizeL_take hlt
   have hle2:=Pd.sizeL_le (l:=l) (k:=i+1)
   have c:=ih _ hmem _ hA
   simp only [Pd.cs] at c
   generalize l[i]=x at *
   generalize Pd.size x=sx at *
   generalize Pd.sizeL (l.take i)=si at *
   (repeat' (first|(with_reducible first|(refine hK _ _ ?_;clear hK K)|(refine hA ?_;clear hA hB A B))|((with_reducible refine z25 ?_);intro K hK;(conv=>whnf))|(with_reducible refine z0 ?_)|((first|((with_reducible refine NV.i64 ?s ?_);case s=>omega)|((with_reducible refine NIf.decY ?s ?_);case s=>omega)|(with_reducible first|refine NN.cast ?_|refine NN.keep ?_)|((with_reducible refine NH.mk ?s ?_);case s=>(and_intros<;>first|with_reducible rfl|((with_reducible refine gOnes ?_);rfl)|((with_reducible refine gLen ?_);rfl)|omega))|((with_reducible refine NCall.isF 81 ?_);refine NCall.subE [0] (c) rfl (by decide) rfl rfl ?_)|(with_reducible refine NLd.of (by with_reducible assumption) ?_))<;>(conv=>whnf))|(with_reducible first|refine z3 ?_|refine z4 ?_|refine z5 ?_|refine z6 ?_)|((with_reducible refine z29 ?_);intro A B hA hB;(conv=>whnf))|(with_reducible first|refine z1 ?_|refine z2 ?_|refine z9 ?_)|((intro _;skip)<;>(conv=>whnf))))
   refine st_round (i+1) hlt (by omega) ?_ (MemFits.pre 2 rfl)
   repeat (first|exact FitsSl.nil|refine FitsSl.any ?_|refine FitsSl.cons (Fit1.int (by  omega)) ?_|refine FitsSl.cons (Fit1.same (by intro h;cases h) (by with_reducible rfl)) ?_)
  ·have hkl:i=l.length:=by omega
   subst hkl
   rw [List.take_length] at hle ⊢
   (repeat' (first|(with_reducible first|(refine hK _ _ ?_;clear hK K)|(refine hB ?_;clear hA hB A B)|(refine hK _ ?_;clear hK K))|((with_reducible refine z25 ?_);intro K hK;(conv=>whnf))|(with_reducible refine z0 ?_)|(((with_reducible refine NIf.decN ?s ?_);case s=>omega)<;>(conv=>whnf))|(with_reducible first|refine z3 ?_|refine z4 ?_|refine z7 ?_|refine z8 ?_)|((with_reducible refine z29 ?_);intro A B hA hB;(conv=>whnf))|(with_reducible first|refine z1 ?_|refine z2 ?_|refine z10 ?_|refine z11 ?_|refine z19 ?_)|((with_reducible refine gR ?_);(refine z31 rfl ?_;intro K hK;(conv=>whnf)))))
   all_goals exact ⟨by rw [e],MemFits.pre 1 rfl⟩
end
theorem pd_cs (k f v:Int) (l:List Pd.T) (u:Value):Pd.cs (.mk k f v l) u=[.int .i64 k,.int .i64 f,.int .i64 v,.hs u l.length]:=rfl
section
variable (F:Heap)
theorem refsize26_c:∀ (n:Nat) (p:Pd.T) (u:Value),Pd.size p≤n→Pd.size p≤4611686018427387904→Pd.Row F u p.l →
  NCall Tryz.prog 49 [.agg (Pd.cs p u)] [hpB F] fun r m=>r = .int .i64 (Pd.size p:Nat)∧m=[hpB F]
 | 0,p,u,hn,_,_=>absurd (Pd.size_pos p) (by omega)
 | n+1,⟨k,f,v,l⟩,u,hn,hs,hu=>by
  refine NCall.fits (K:=fun r m=>r = .int .i64 (Pd.size (.mk k f v l):Nat)∧MemFits m [hpB F]) ?_ fun r m' h=>⟨r,_,rfl,h.2,h.1,rfl⟩
  have hu:Pd.Row F u l:=hu
  have hok:=hu.ok
  have e:Pd.size (.mk k f v l)=1+Pd.sizeL l:=by rw [Pd.size]
  have hll:=Pd.length_le l
  have ih:∀ x∈l,∀ w,Pd.Row F w x.l→_:=fun x hx w hw=>refsize26_c n x w (by have:=Pd.size_lt (k:=k) (f:=f) (v:=v) hx;omega) (by have:=Pd.size_lt (k:=k) (f:=f) (v:=v) hx;omega) hw
  refine ncall_of Tryz.func49 rfl (by decide) ?_
  rw [pd_cs]
  (repeat' (first|(with_reducible first|(refine hK _ _ ?_;clear hK K)|(refine hK _ ?_;clear hK K))|((with_reducible refine z25 ?_);intro K hK;(conv=>whnf))|(with_reducible first|refine z0 ?_|refine z3 ?_|refine z4 ?_|refine z5 ?_|refine z1 ?_|refine z2 ?_)|((with_reducible refine gF ?_);(refine z33 rfl ?_;intro K hK;(conv=>whnf)))|((intro _;skip)<;>(conv=>whnf))))
  refine st_auto (α:=Nat) (fun i=>i≤l.length) (fun i=>[.keep,.keep,.keep,.set (.int .i64 (1+Pd.sizeL (l.take i):Nat)),.set (.int .i64 i),.drop,.drop,.drop,.drop,.drop,.drop,.drop,.drop,.drop,.drop,.drop,.drop,.drop,.drop,.drop,.keep]) (fun _=>[]) (fun i=>l.length - i) 0 (Nat.zero_le _) ?_ (MemFits.eq rfl) ?_
  ·repeat (first|exact FitsSl.nil|refine FitsSl.any ?_|refine FitsSl.cons (Fit1.int (by  simp [Pd.sizeL])) ?_|refine FitsSl.cons (Fit1.same (by intro h;cases h) (by with_reducible rfl)) ?_)
  (intro i hi;intro K hK;(conv=>whnf);refine hK _ _ ?_;clear hK K)
  have hle:=Pd.sizeL_le (l:=l) (k:=i)
  by_cases hlt:i<l.length
  ·have hx:l[i]?=some l[i]:=List.getElem?_eq_getElem hlt
   obtain ⟨A,cap,hA,c0,c1,c2,c3⟩:=hu.get hx
   have hmem:=List.mem_of_getElem? hx
   have hnx:=Pd.sizeL_take hlt
   have hle2:=Pd.sizeL_le (l:=l) (k:=i+1)
   have c:=ih _ hmem _ hA
   simp only [Pd.cs] at c
   generalize l[i]=x at *
   generalize Pd.size x=sx at *
   generalize Pd.sizeL (l.take i)=si at *
   (repeat' (first|(with_reducible first|(refine hK _ _ ?_;clear hK K)|(refine hA ?_;clear hA hB A B))|((with_reducible refine z25 ?_);intro K hK;(conv=>whnf))|(with_reducible refine z0 ?_)|((first|((with_reducible refine NV.i64 ?s ?_);case s=>omega)|((with_reducible refine NIf.decY ?s ?_);case s=>omega)|(with_reducible first|refine NN.cast ?_|refine NN.a5 ?_|refine NN.keep ?_)|((with_reducible refine NH.mk ?s ?_);case s=>(and_intros<;>first|with_reducible rfl|omega))|((with_reducible refine NCall.isF 49 ?_);refine NCall.subE [0] (c) rfl (by decide) rfl rfl ?_)|(with_reducible refine NLd.of (by with_reducible assumption) ?_))<;>(conv=>whnf))|(with_reducible first|refine z3 ?_|refine z4 ?_|refine z5 ?_|refine z6 ?_)|((with_reducible refine z29 ?_);intro A B hA hB;(conv=>whnf))|(with_reducible first|refine z1 ?_|refine z2 ?_|refine z9 ?_)))
   refine st_round (i+1) hlt (by omega) ?_ (MemFits.eq rfl)
   repeat (first|exact FitsSl.nil|refine FitsSl.any ?_|refine FitsSl.cons (Fit1.int (by  omega)) ?_|refine FitsSl.cons (Fit1.same (by intro h;cases h) (by with_reducible rfl)) ?_)
  ·have hkl:i=l.length:=by omega
   subst hkl
   rw [List.take_length] at hle ⊢
   (repeat' (first|(with_reducible first|(refine hK _ _ ?_;clear hK K)|(refine hB ?_;clear hA hB A B)|(refine hK _ ?_;clear hK K))|((with_reducible refine z25 ?_);intro K hK;(conv=>whnf))|(with_reducible refine z0 ?_)|((first|((with_reducible refine NIf.decN ?s ?_);case s=>omega)|(with_reducible refine NN.a5 ?_)|((with_reducible refine NH.mk ?s ?_);case s=>(and_intros<;>first|with_reducible rfl|omega)))<;>(conv=>whnf))|(with_reducible first|refine z3 ?_|refine z4 ?_|refine z7 ?_|refine z8 ?_)|((with_reducible refine z29 ?_);intro A B hA hB;(conv=>whnf))|(with_reducible first|refine z1 ?_|refine z2 ?_|refine z10 ?_|refine z11 ?_|refine z19 ?_)|((with_reducible refine gR ?_);(refine z31 rfl ?_;intro K hK;(conv=>whnf)))))
   all_goals exact ⟨by rw [e],MemFits.pre 1 rfl⟩
theorem deep26_c:∀ (n:Nat) (p:Pd.T) (u:Value),Pd.size p≤n→Pd.size p≤4611686018427387904→Pd.Row F u p.l →
  NCall Tryz.prog 141 [.agg (Pd.cs p u)] [hpB F] fun r m=>r = .int .i64 (Pd.deep p:Nat)∧m=[hpB F]
 | 0,p,u,hn,_,_=>absurd (Pd.size_pos p) (by omega)
 | n+1,⟨k,f,v,l⟩,u,hn,hs,hu=>by
  refine NCall.fits (K:=fun r m=>r = .int .i64 (Pd.deep (.mk k f v l):Nat)∧MemFits m [hpB F]) ?_ fun r m' h=>⟨r,_,rfl,h.2,h.1,rfl⟩
  have hu:Pd.Row F u l:=hu
  have hok:=hu.ok
  have e:Pd.deep (.mk k f v l)=1+Pd.deepL l:=by rw [Pd.deep]
  have e2:Pd.size (.mk k f v l)=1+Pd.sizeL l:=by rw [Pd.size]
  have hll:=Pd.length_le l
  have ih:∀ x∈l,∀ w,Pd.Row F w x.l→_:=fun x hx w hw=>deep26_c n x w (by have:=Pd.size_lt (k:=k) (f:=f) (v:=v) hx;omega) (by have:=Pd.size_lt (k:=k) (f:=f) (v:=v) hx;omega) hw
  refine ncall_of Tryz.func141 rfl (by decide) ?_
  rw [pd_cs]
  (repeat' (first|(with_reducible first|(refine hK _ _ ?_;clear hK K)|(refine hK _ ?_;clear hK K))|((with_reducible refine z25 ?_);intro K hK;(conv=>whnf))|(with_reducible refine z0 ?_)|((first|(with_reducible refine NN.a5 ?_)|((with_reducible refine NH.mk ?s ?_);case s=>(and_intros<;>first|with_reducible rfl|omega)))<;>(conv=>whnf))|(with_reducible first|refine z3 ?_|refine z4 ?_|refine z5 ?_|refine z1 ?_|refine z2 ?_)|((with_reducible refine gF ?_);(refine z33 rfl ?_;intro K hK;(conv=>whnf)))|((intro _;skip)<;>(conv=>whnf))))
  refine st_auto (α:=Nat) (fun i=>i≤l.length) (fun i=>[.keep,.keep,.keep,.set (.int .i64 (Pd.deepL (l.take i):Nat)),.keep,.drop,.keep,.keep,.keep,.set (.int .i64 i),.drop,.drop,.drop,.drop,.drop,.drop,.drop,.drop,.keep,.keep]) (fun _=>[]) (fun i=>l.length - i) 0 (Nat.zero_le _) ?_ (MemFits.eq rfl) ?_
  ·repeat (first|exact FitsSl.nil|refine FitsSl.any ?_|refine FitsSl.cons (Fit1.int (by  simp [Pd.deepL])) ?_|refine FitsSl.cons (Fit1.same (by intro h;cases h) (by with_reducible rfl)) ?_)
  (intro i hi;intro K hK;(conv=>whnf);refine hK _ _ ?_;clear hK K)
  have hle:=Nat.le_trans (Pd.deepL_size (l.take i)) (Pd.sizeL_le (l:=l) (k:=i))
  by_cases hlt:i<l.length
  ·have hx:l[i]?=some l[i]:=List.getElem?_eq_getElem hlt
   obtain ⟨A,cap,hA,c0,c1,c2,c3⟩:=hu.get hx
   have hmem:=List.mem_of_getElem? hx
   have hnx:=Pd.deepL_take hlt
   have hle2:=Nat.le_trans (Pd.deepL_size (l.take (i+1))) (Pd.sizeL_le (l:=l) (k:=i+1))
   have c:=ih _ hmem _ hA
   simp only [Pd.cs] at c
   generalize l[i]=x at *
   generalize Pd.deep x=sx at *
   generalize Pd.deepL (l.take i)=si at *
   (repeat' (first|(with_reducible first|(refine hK _ _ ?_;clear hK K)|(refine hA ?_;clear hA hB A B))|((with_reducible refine z25 ?_);intro K hK;(conv=>whnf))|(with_reducible refine z0 ?_)|((first|((with_reducible refine NV.i64 ?s ?_);case s=>omega)|(with_reducible refine NV.keep ?_)|((with_reducible refine NIf.decY ?s ?_);case s=>omega)|(with_reducible first|refine NN.cast ?_|refine NN.keep ?_)|((with_reducible refine NH.mk ?s ?_);case s=>(and_intros<;>first|with_reducible rfl|((with_reducible refine gOnes ?_);rfl)|((with_reducible refine gLen ?_);rfl)|omega))|((with_reducible refine NCall.isF 141 ?_);refine NCall.subE [0] (c) rfl (by decide) rfl rfl ?_)|(with_reducible refine NLd.of (by with_reducible assumption) ?_))<;>(conv=>whnf))|(with_reducible first|refine z3 ?_|refine z4 ?_|refine z5 ?_|refine z6 ?_)|((with_reducible refine z29 ?_);intro A B hA hB;(conv=>whnf))|(with_reducible first|refine z1 ?_|refine z2 ?_|refine z9 ?_)|((intro _;skip)<;>(conv=>whnf))))
   refine st_round (i+1) hlt (by omega) ?_ (MemFits.pre 2 rfl)
   repeat (first|exact FitsSl.nil|refine FitsSl.any ?_|refine FitsSl.cons (Fit1.int (by  omega)) ?_|refine FitsSl.cons (Fit1.same (by intro h;cases h) (by with_reducible rfl)) ?_)
  ·have hkl:i=l.length:=by omega
   subst hkl
   rw [List.take_length] at hle ⊢
   (repeat' (first|(with_reducible first|(refine hK _ _ ?_;clear hK K)|(refine hB ?_;clear hA hB A B)|(refine hK _ ?_;clear hK K))|((with_reducible refine z25 ?_);intro K hK;(conv=>whnf))|(with_reducible refine z0 ?_)|((first|((with_reducible refine NV.i64 ?s ?_);case s=>omega)|((with_reducible refine NIf.decN ?s ?_);case s=>omega))<;>(conv=>whnf))|(with_reducible first|refine z3 ?_|refine z4 ?_|refine z7 ?_|refine z8 ?_)|((with_reducible refine z29 ?_);intro A B hA hB;(conv=>whnf))|(with_reducible first|refine z1 ?_|refine z2 ?_|refine z10 ?_|refine z11 ?_|refine z19 ?_)|((with_reducible refine gR ?_);(refine z31 rfl ?_;intro K hK;(conv=>whnf)))))
   all_goals exact ⟨by rw [e];congr 1;omega,MemFits.pre 1 rfl⟩
theorem refdeep26_c:∀ (n:Nat) (p:Pd.T) (u:Value),Pd.size p≤n→Pd.size p≤4611686018427387904→Pd.Row F u p.l →
  NCall Tryz.prog 96 [.agg (Pd.cs p u)] [hpB F] fun r m=>r = .int .i64 (Pd.deep p:Nat)∧m=[hpB F]
 | 0,p,u,hn,_,_=>absurd (Pd.size_pos p) (by omega)
 | n+1,⟨k,f,v,l⟩,u,hn,hs,hu=>by
  refine NCall.fits (K:=fun r m=>r = .int .i64 (Pd.deep (.mk k f v l):Nat)∧MemFits m [hpB F]) ?_ fun r m' h=>⟨r,_,rfl,h.2,h.1,rfl⟩
  have hu:Pd.Row F u l:=hu
  have hok:=hu.ok
  have e:Pd.deep (.mk k f v l)=1+Pd.deepL l:=by rw [Pd.deep]
  have e2:Pd.size (.mk k f v l)=1+Pd.sizeL l:=by rw [Pd.size]
  have hll:=Pd.length_le l
  have ih:∀ x∈l,∀ w,Pd.Row F w x.l→_:=fun x hx w hw=>refdeep26_c n x w (by have:=Pd.size_lt (k:=k) (f:=f) (v:=v) hx;omega) (by have:=Pd.size_lt (k:=k) (f:=f) (v:=v) hx;omega) hw
  refine ncall_of Tryz.func96 rfl (by decide) ?_
  rw [pd_cs]
  (repeat' (first|(with_reducible first|(refine hK _ _ ?_;clear hK K)|(refine hK _ ?_;clear hK K))|((with_reducible refine z25 ?_);intro K hK;(conv=>whnf))|(with_reducible first|refine z0 ?_|refine z3 ?_|refine z4 ?_|refine z5 ?_|refine z1 ?_|refine z2 ?_)|((with_reducible refine gF ?_);(refine z33 rfl ?_;intro K hK;(conv=>whnf)))|((intro _;skip)<;>(conv=>whnf))))
  refine st_auto (α:=Nat) (fun i=>i≤l.length) (fun i=>[.keep,.keep,.keep,.set (.int .i64 (1+Pd.deepL (l.take i):Nat)),.set (.int .i64 i),.drop,.drop,.drop,.drop,.drop,.drop,.drop,.drop,.drop,.drop,.drop,.drop,.drop,.drop,.drop,.drop,.drop,.drop,.drop,.drop,.drop,.drop,.drop,.keep]) (fun _=>[]) (fun i=>l.length - i) 0 (Nat.zero_le _) ?_ (MemFits.eq rfl) ?_
  ·repeat (first|exact FitsSl.nil|refine FitsSl.any ?_|refine FitsSl.cons (Fit1.int (by  simp [Pd.deepL])) ?_|refine FitsSl.cons (Fit1.same (by intro h;cases h) (by with_reducible rfl)) ?_)
  (intro i hi;intro K hK;(conv=>whnf);refine hK _ _ ?_;clear hK K)
  have hle:=Nat.le_trans (Pd.deepL_size (l.take i)) (Pd.sizeL_le (l:=l) (k:=i))
  by_cases hlt:i<l.length
  ·have hx:l[i]?=some l[i]:=List.getElem?_eq_getElem hlt
   obtain ⟨A,cap,hA,c0,c1,c2,c3⟩:=hu.get hx
   have hmem:=List.mem_of_getElem? hx
   have hnx:=Pd.deepL_take hlt
   have hle2:=Nat.le_trans (Pd.deepL_size (l.take (i+1))) (Pd.sizeL_le (l:=l) (k:=i+1))
   have c:=ih _ hmem _ hA
   simp only [Pd.cs] at c
   generalize l[i]=x at *
   generalize Pd.deep x=sx at *
   generalize Pd.deepL (l.take i)=si at *
   (repeat' (first|(with_reducible first|(refine hK _ _ ?_;clear hK K)|(refine hA ?_;clear hA hB A B)|(refine hB ?_;clear hA hB A B))|((with_reducible refine z25 ?_);intro K hK;(conv=>whnf))|(with_reducible refine z0 ?_)|((first|((with_reducible refine NV.i64 ?s ?_);case s=>omega)|((with_reducible refine NIf.decY ?s ?_);case s=>omega)|(with_reducible first|refine NIf.dec (fun _=>?_) (fun _=>?_)|refine NN.cast ?_|refine NN.a5 ?_|refine NN.keep ?_)|((with_reducible refine NH.mk ?s ?_);case s=>(and_intros<;>first|with_reducible rfl|omega))|((with_reducible refine NCall.isF 96 ?_);refine NCall.subE [0] (c) rfl (by decide) rfl rfl ?_)|(with_reducible refine NLd.of (by with_reducible assumption) ?_))<;>(conv=>whnf))|(with_reducible first|refine z3 ?_|refine z4 ?_|refine z5 ?_|refine z6 ?_)|((with_reducible refine z29 ?_);intro A B hA hB;(conv=>whnf))|(with_reducible first|refine z1 ?_|refine z2 ?_|refine z9 ?_)))
   all_goals refine st_round (i+1) hlt (by omega) ?_ (MemFits.eq rfl)
   all_goals repeat (first|exact FitsSl.nil|refine FitsSl.any ?_|refine FitsSl.cons (Fit1.int (by  omega)) ?_|refine FitsSl.cons (Fit1.same (by intro h;cases h) (by with_reducible rfl)) ?_)
  ·have hkl:i=l.length:=by omega
   subst hkl
   rw [List.take_length] at hle ⊢
   (repeat' (first|(with_reducible first|(refine hK _ _ ?_;clear hK K)|(refine hB ?_;clear hA hB A B)|(refine hK _ ?_;clear hK K))|((with_reducible refine z25 ?_);intro K hK;(conv=>whnf))|(with_reducible refine z0 ?_)|((first|((with_reducible refine NIf.decN ?s ?_);case s=>omega)|(with_reducible refine NN.a5 ?_)|((with_reducible refine NH.mk ?s ?_);case s=>(and_intros<;>first|with_reducible rfl|omega)))<;>(conv=>whnf))|(with_reducible first|refine z3 ?_|refine z4 ?_|refine z7 ?_|refine z8 ?_)|((with_reducible refine z29 ?_);intro A B hA hB;(conv=>whnf))|(with_reducible first|refine z1 ?_|refine z2 ?_|refine z10 ?_|refine z11 ?_|refine z19 ?_)|((with_reducible refine gR ?_);(refine z31 rfl ?_;intro K hK;(conv=>whnf)))))
   all_goals exact ⟨by rw [e],MemFits.pre 1 rfl⟩
end
theorem bits26_c (f:Int):NCall Tryz.prog 150 [.int .i64 f] [] fun r _=>r = .int .i64 (if f=2 then 4 else if f=0∨f=1∨f=3 then 8 else 0):=by
 refine ncall_of Tryz.func150 rfl (by decide) ?_
 by_cases h:0≤f∧f≤3
 ·have:f=0∨f=1∨f=2∨f=3:=by omega
  rcases this with rfl | rfl | rfl | rfl
  all_goals (repeat' (first|(with_reducible first|(refine hK _ _ ?_;clear hK K)|(refine hA ?_;clear hA hB A B)|(refine hB ?_;clear hA hB A B)|(refine hK _ ?_;clear hK K))|((with_reducible refine z25 ?_);intro K hK;(conv=>whnf))|(with_reducible refine z0 ?_)|((first|((with_reducible refine NIf.decY ?s ?_);case s=>with_reducible rfl)|((with_reducible refine NIf.decN ?s ?_);case s=>omega))<;>(conv=>whnf))|(with_reducible first|refine z3 ?_|refine z4 ?_|refine z5 ?_|refine z6 ?_|refine z8 ?_)|((with_reducible refine z29 ?_);intro A B hA hB;(conv=>whnf))|(with_reducible first|refine z1 ?_|refine z2 ?_|refine z12 ?_|refine z13 ?_)|((with_reducible refine gR ?_);(refine z31 rfl ?_;intro K hK;(conv=>whnf)))|((with_reducible refine gF ?_);(refine z33 rfl ?_;intro K hK;(conv=>whnf)))))
  all_goals rfl
 ·rw [if_neg (by omega),if_neg (by omega)]
  (repeat' (first|(with_reducible first|(refine hK _ _ ?_;clear hK K)|(refine hB ?_;clear hA hB A B)|(refine hK _ ?_;clear hK K))|((with_reducible refine z25 ?_);intro K hK;(conv=>whnf))|(with_reducible refine z0 ?_)|(((with_reducible refine NIf.decN ?s ?_);case s=>omega)<;>(conv=>whnf))|(with_reducible first|refine z3 ?_|refine z4 ?_|refine z5 ?_|refine z6 ?_|refine z8 ?_)|((with_reducible refine z29 ?_);intro A B hA hB;(conv=>whnf))|(with_reducible first|refine z1 ?_|refine z2 ?_|refine z9 ?_)|((with_reducible refine gR ?_);(refine z31 rfl ?_;intro K hK;(conv=>whnf)))|((with_reducible refine gF ?_);(refine z33 rfl ?_;intro K hK;(conv=>whnf)))))
  all_goals first | rfl | (exfalso;omega)
theorem ptop26_c (f:Int):NCall Tryz.prog 140 [.int .i64 f] [] fun r _=>r = .int .i64 (if f=2 then 15 else if f=0∨f=1∨f=3 then 255 else 0):=by
 have c:=bits26_c f
 have e4:IntKind.i64.wrap (1*2 ^ min (Int.toNat 4) IntKind.i64.bits)=16:=by decide +kernel
 have e8:IntKind.i64.wrap (1*2 ^ min (Int.toNat 8) IntKind.i64.bits)=256:=by decide +kernel
 have e0:IntKind.i64.wrap (1*2 ^ min (Int.toNat 0) IntKind.i64.bits)=1:=by decide +kernel
 refine ncall_of Tryz.func140 rfl (by decide) ?_
 by_cases h2:f=2
 ·rw [if_pos h2] at c ⊢
  (repeat' (first|(with_reducible first|(refine hK _ _ ?_;clear hK K)|(refine hK _ ?_;clear hK K))|((with_reducible refine z25 ?_);intro K hK;(conv=>whnf))|(with_reducible refine z0 ?_)|((first|(with_reducible refine NV.eq (e4) ?_)|((with_reducible refine NV.i64 ?s ?_);case s=>omega)|((with_reducible refine NH.mk ?s ?_);case s=>(and_intros<;>omega))|((with_reducible refine NCall.isF 150 ?_);refine NCall.pureE (c) ?_))<;>(conv=>whnf))|(with_reducible first|refine z3 ?_|refine z4 ?_|refine z8 ?_|refine z1 ?_|refine z2 ?_)|((with_reducible refine gR ?_);(refine z31 rfl ?_;intro K hK;(conv=>whnf)))|((with_reducible refine gF ?_);(refine z33 rfl ?_;intro K hK;(conv=>whnf)))))
  all_goals rfl
 ·rw [if_neg h2] at c ⊢
  by_cases h3:f=0∨f=1∨f=3
  ·rw [if_pos h3] at c ⊢
   (repeat' (first|(with_reducible first|(refine hK _ _ ?_;clear hK K)|(refine hK _ ?_;clear hK K))|((with_reducible refine z25 ?_);intro K hK;(conv=>whnf))|(with_reducible refine z0 ?_)|((first|(with_reducible refine NV.eq (e8) ?_)|((with_reducible refine NV.i64 ?s ?_);case s=>omega)|((with_reducible refine NH.mk ?s ?_);case s=>(and_intros<;>omega))|((with_reducible refine NCall.isF 150 ?_);refine NCall.pureE (c) ?_))<;>(conv=>whnf))|(with_reducible first|refine z3 ?_|refine z4 ?_|refine z8 ?_|refine z1 ?_|refine z2 ?_)|((with_reducible refine gR ?_);(refine z31 rfl ?_;intro K hK;(conv=>whnf)))|((with_reducible refine gF ?_);(refine z33 rfl ?_;intro K hK;(conv=>whnf)))))
   all_goals rfl
  ·rw [if_neg h3] at c ⊢
   (repeat' (first|(with_reducible first|(refine hK _ _ ?_;clear hK K)|(refine hK _ ?_;clear hK K))|((with_reducible refine z25 ?_);intro K hK;(conv=>whnf))|(with_reducible refine z0 ?_)|((first|(with_reducible refine NV.eq (e0) ?_)|((with_reducible refine NV.i64 ?s ?_);case s=>omega)|((with_reducible refine NH.mk ?s ?_);case s=>(and_intros<;>omega))|((with_reducible refine NCall.isF 150 ?_);refine NCall.pureE (c) ?_))<;>(conv=>whnf))|(with_reducible first|refine z3 ?_|refine z4 ?_|refine z8 ?_|refine z1 ?_|refine z2 ?_)|((with_reducible refine gR ?_);(refine z31 rfl ?_;intro K hK;(conv=>whnf)))|((with_reducible refine gF ?_);(refine z33 rfl ?_;intro K hK;(conv=>whnf)))))
   all_goals rfl
theorem rptop26_c (f:Int):NCall Tryz.prog 40 [.int .i64 f] [] fun r _=>r = .int .i64 (if f=2 then 15 else if f=0∨f=1∨f=3 then 255 else 0):=by
 refine ncall_of Tryz.func40 rfl (by decide) ?_
 by_cases h2:f=2
 ·rw [if_pos h2]
  (repeat' (first|(with_reducible first|(refine hK _ _ ?_;clear hK K)|(refine hA ?_;clear hA hB A B)|(refine hK _ ?_;clear hK K))|((with_reducible refine z25 ?_);intro K hK;(conv=>whnf))|(with_reducible refine z0 ?_)|(((with_reducible refine NIf.decY ?s ?_);case s=>assumption)<;>(conv=>whnf))|(with_reducible first|refine z3 ?_|refine z4 ?_|refine z8 ?_)|((with_reducible refine z29 ?_);intro A B hA hB;(conv=>whnf))|(with_reducible first|refine z1 ?_|refine z2 ?_|refine z12 ?_)|((with_reducible refine gR ?_);(refine z31 rfl ?_;intro K hK;(conv=>whnf)))|((with_reducible refine gF ?_);(refine z33 rfl ?_;intro K hK;(conv=>whnf)))))
  all_goals first | rfl | (exfalso;omega)
 ·rw [if_neg h2]
  by_cases h3:f=0∨f=1∨f=3
  ·rw [if_pos h3]
   (repeat' (first|(with_reducible first|(refine hK _ _ ?_;clear hK K)|(refine hA ?_;clear hA hB A B)|(refine hB ?_;clear hA hB A B)|(refine hK _ ?_;clear hK K))|((with_reducible first|refine z25 ?_|refine z26 ?_);intro K hK;(conv=>whnf))|(with_reducible refine z0 ?_)|((first|((with_reducible refine NIf.decY ?s ?_);case s=>first|assumption|omega)|((with_reducible refine NIf.decN ?s ?_);case s=>assumption)|((with_reducible refine NIf.yes ?s ?_);case s=>rfl)|(with_reducible refine NIf.dec (fun _=>?_) (fun _=>?_)))<;>(conv=>whnf))|(with_reducible first|refine z3 ?_|refine z4 ?_|refine z6 ?_|refine z8 ?_)|((with_reducible refine z29 ?_);intro A B hA hB;(conv=>whnf))|(with_reducible first|refine z1 ?_|refine z2 ?_|refine z12 ?_)|((with_reducible refine gR ?_);(refine z31 rfl ?_;intro K hK;(conv=>whnf)))|((with_reducible refine gF ?_);(refine z33 rfl ?_;intro K hK;(conv=>whnf)))))
   all_goals first | rfl | (exfalso;omega)
  ·rw [if_neg h3]
   (repeat' (first|(with_reducible first|(refine hK _ _ ?_;clear hK K)|(refine hB ?_;clear hA hB A B)|(refine hK _ ?_;clear hK K))|((with_reducible first|refine z25 ?_|refine z26 ?_);intro K hK;(conv=>whnf))|(with_reducible refine z0 ?_)|(((with_reducible refine NIf.decN ?s ?_);case s=>first|assumption|omega)<;>(conv=>whnf))|(with_reducible first|refine z3 ?_|refine z4 ?_|refine z6 ?_|refine z8 ?_)|((with_reducible refine z29 ?_);intro A B hA hB;(conv=>whnf))|(with_reducible first|refine z1 ?_|refine z2 ?_)|((with_reducible refine gR ?_);(refine z31 rfl ?_;intro K hK;(conv=>whnf)))|((with_reducible refine gF ?_);(refine z33 rfl ?_;intro K hK;(conv=>whnf)))))
   all_goals first | rfl | (exfalso;omega)
theorem top26_c (f:Int):NCall Tryz.prog 113 [.int .i64 f] [] fun r _=>r = .int .i64 (Pd.top f):=by
 have c:=ptop26_c f
 refine ncall_of Tryz.func113 rfl (by decide) ?_
 unfold Pd.top
 by_cases h:f=4∨f=5
 ·rw [if_pos h]
  (repeat' (first|(with_reducible first|(refine hK _ _ ?_;clear hK K)|(refine hA ?_;clear hA hB A B)|(refine hB ?_;clear hA hB A B)|(refine hK _ ?_;clear hK K))|((with_reducible refine z25 ?_);intro K hK;(conv=>whnf))|(with_reducible refine z0 ?_)|((first|((with_reducible refine NIf.decY ?s ?_);case s=>omega)|(with_reducible refine NIf.dec (fun _=>?_) (fun _=>?_)))<;>(conv=>whnf))|(with_reducible first|refine z3 ?_|refine z4 ?_|refine z5 ?_|refine z8 ?_)|((with_reducible refine z29 ?_);intro A B hA hB;(conv=>whnf))|(with_reducible first|refine z1 ?_|refine z2 ?_|refine z12 ?_|refine z13 ?_)|((with_reducible refine gR ?_);(refine z31 rfl ?_;intro K hK;(conv=>whnf)))|((with_reducible refine gF ?_);(refine z33 rfl ?_;intro K hK;(conv=>whnf)))))
  all_goals first | rfl | (exfalso;omega)
 ·rw [if_neg h]
  (repeat' (first|(with_reducible first|(refine hK _ _ ?_;clear hK K)|(refine hB ?_;clear hA hB A B)|(refine hK _ ?_;clear hK K))|((with_reducible refine z25 ?_);intro K hK;(conv=>whnf))|(with_reducible refine z0 ?_)|((first|((with_reducible refine NIf.decN ?s ?_);case s=>omega)|((with_reducible refine NCall.isF 140 ?_);refine NCall.pureE (c) ?_))<;>(conv=>whnf))|(with_reducible first|refine z3 ?_|refine z4 ?_|refine z5 ?_|refine z6 ?_|refine z8 ?_)|((with_reducible refine z29 ?_);intro A B hA hB;(conv=>whnf))|(with_reducible first|refine z1 ?_|refine z2 ?_|refine z9 ?_)|((with_reducible refine gR ?_);(refine z31 rfl ?_;intro K hK;(conv=>whnf)))|((with_reducible refine gF ?_);(refine z33 rfl ?_;intro K hK;(conv=>whnf)))))
  all_goals first | rfl | (exfalso;omega)
theorem reftop26_c (f:Int):NCall Tryz.prog 47 [.int .i64 f] [] fun r _=>r = .int .i64 (Pd.top f):=by
 have c:=rptop26_c f
 refine ncall_of Tryz.func47 rfl (by decide) ?_
 unfold Pd.top
 by_cases h:f=4∨f=5
 ·rw [if_pos h]
  (repeat' (first|(with_reducible first|(refine hK _ _ ?_;clear hK K)|(refine hA ?_;clear hA hB A B)|(refine hK _ ?_;clear hK K))|((with_reducible first|refine z25 ?_|refine z26 ?_);intro K hK;(conv=>whnf))|(with_reducible refine z0 ?_)|((first|((with_reducible refine NIf.decY ?s ?_);case s=>first|assumption|omega)|((with_reducible refine NIf.decN ?s ?_);case s=>assumption)|((with_reducible refine NIf.yes ?s ?_);case s=>rfl)|(with_reducible refine NIf.dec (fun _=>?_) (fun _=>?_)))<;>(conv=>whnf))|(with_reducible first|refine z3 ?_|refine z4 ?_|refine z8 ?_)|((with_reducible refine z29 ?_);intro A B hA hB;(conv=>whnf))|(with_reducible first|refine z1 ?_|refine z2 ?_|refine z12 ?_)|((with_reducible refine gR ?_);(refine z31 rfl ?_;intro K hK;(conv=>whnf)))|((with_reducible refine gF ?_);(refine z33 rfl ?_;intro K hK;(conv=>whnf)))))
  all_goals first | rfl | (exfalso;omega)
 ·rw [if_neg h]
  (repeat' (first|(with_reducible first|(refine hK _ _ ?_;clear hK K)|(refine hB ?_;clear hA hB A B)|(refine hK _ ?_;clear hK K))|((with_reducible first|refine z25 ?_|refine z26 ?_);intro K hK;(conv=>whnf))|(with_reducible refine z0 ?_)|((first|((with_reducible refine NIf.decN ?s ?_);case s=>omega)|((with_reducible refine NCall.isF 40 ?_);refine NCall.pureE (c) ?_))<;>(conv=>whnf))|(with_reducible first|refine z3 ?_|refine z4 ?_|refine z6 ?_|refine z8 ?_)|((with_reducible refine z29 ?_);intro A B hA hB;(conv=>whnf))|(with_reducible first|refine z1 ?_|refine z2 ?_)|((with_reducible refine gR ?_);(refine z31 rfl ?_;intro K hK;(conv=>whnf)))|((with_reducible refine gF ?_);(refine z33 rfl ?_;intro K hK;(conv=>whnf)))))
  all_goals first | rfl | (exfalso;omega)
theorem get26_c (f:Int) (x:Pd.At):NCall Tryz.prog 137 [.int .i64 f,.int .i64 x.sw,.int .i64 x.port,.agg [.int .i64 x.p0,.int .i64 x.p1,.int .i64 x.p2,.int .i64 x.p3]] [] fun r _=>r = .int .i64 (Pd.get f x):=by
 refine ncall_of Tryz.func137 rfl (by decide) ?_
 unfold Pd.get
 by_cases h:0≤f∧f≤5
 ·have:f=0∨f=1∨f=2∨f=3∨f=4∨f=5:=by omega
  rcases this with rfl | rfl | rfl | rfl | rfl | rfl
  all_goals (repeat' (first|(with_reducible first|(refine hK _ _ ?_;clear hK K)|(refine hA ?_;clear hA hB A B)|(refine hB ?_;clear hA hB A B)|(refine hK _ ?_;clear hK K))|((with_reducible first|refine z25 ?_|refine z26 ?_);intro K hK;(conv=>whnf))|(with_reducible refine z0 ?_)|((first|((with_reducible refine NIf.decY ?s ?_);case s=>with_reducible rfl)|((with_reducible refine NIf.decN ?s ?_);case s=>omega)|(with_reducible first|refine NN.lit ?_|refine NN.a1 ?_)|((with_reducible refine NH.mk ?s ?_);case s=>(and_intros<;>first|with_reducible rfl|omega)))<;>(conv=>whnf))|(with_reducible first|refine z3 ?_|refine z4 ?_|refine z5 ?_|refine z6 ?_|refine z8 ?_)|((with_reducible refine z29 ?_);intro A B hA hB;(conv=>whnf))|(with_reducible first|refine z1 ?_|refine z2 ?_|refine z9 ?_|refine z12 ?_|refine z13 ?_)|((with_reducible refine gR ?_);(refine z31 rfl ?_;intro K hK;(conv=>whnf)))|((with_reducible refine gF ?_);(refine z33 rfl ?_;intro K hK;(conv=>whnf)))|((intro _;skip)<;>(conv=>whnf))))
  all_goals first | rfl | (exfalso;omega)
 ·rw [if_neg (by omega),if_neg (by omega),if_neg (by omega),if_neg (by omega),if_neg (by omega),if_neg (by omega)]
  (repeat' (first|(with_reducible first|(refine hK _ _ ?_;clear hK K)|(refine hA ?_;clear hA hB A B)|(refine hB ?_;clear hA hB A B)|(refine hK _ ?_;clear hK K))|((with_reducible first|refine z25 ?_|refine z26 ?_);intro K hK;(conv=>whnf))|(with_reducible refine z0 ?_)|((first|((with_reducible refine NIf.decY ?s ?_);case s=>first|assumption|omega)|((with_reducible refine NIf.decN ?s ?_);case s=>first|assumption|omega)|((with_reducible refine NIf.yes ?s ?_);case s=>rfl)|(with_reducible refine NIf.dec (fun _=>?_) (fun _=>?_)))<;>(conv=>whnf))|(with_reducible first|refine z3 ?_|refine z4 ?_|refine z5 ?_|refine z8 ?_)|((with_reducible refine z29 ?_);intro A B hA hB;(conv=>whnf))|(with_reducible first|refine z1 ?_|refine z2 ?_|refine z12 ?_|refine z13 ?_)|((with_reducible refine gR ?_);(refine z31 rfl ?_;intro K hK;(conv=>whnf)))|((with_reducible refine gF ?_);(refine z33 rfl ?_;intro K hK;(conv=>whnf)))|((intro _;skip)<;>(conv=>whnf))))
  all_goals first | rfl | (exfalso;omega)
theorem refget26_c (f:Int) (x:Pd.At):NCall Tryz.prog 148 [.int .i64 f,.int .i64 x.sw,.int .i64 x.port,.agg [.int .i64 x.p0,.int .i64 x.p1,.int .i64 x.p2,.int .i64 x.p3]] [] fun r _=>r = .int .i64 (Pd.get f x):=by
 refine ncall_of Tryz.func148 rfl (by decide) ?_
 unfold Pd.get
 by_cases h:0≤f∧f≤5
 ·have:f=0∨f=1∨f=2∨f=3∨f=4∨f=5:=by omega
  rcases this with rfl | rfl | rfl | rfl | rfl | rfl
  all_goals (repeat' (first|(with_reducible first|(refine hK _ _ ?_;clear hK K)|(refine hA ?_;clear hA hB A B)|(refine hB ?_;clear hA hB A B)|(refine hK _ ?_;clear hK K))|((with_reducible first|refine z25 ?_|refine z26 ?_);intro K hK;(conv=>whnf))|(with_reducible refine z0 ?_)|((first|((with_reducible refine NIf.decY ?s ?_);case s=>first|with_reducible rfl|omega)|((with_reducible refine NIf.decN ?s ?_);case s=>omega)|(with_reducible first|refine NN.lit ?_|refine NN.a1 ?_)|((with_reducible refine NH.mk ?s ?_);case s=>(and_intros<;>first|with_reducible rfl|omega)))<;>(conv=>whnf))|(with_reducible first|refine z3 ?_|refine z4 ?_|refine z6 ?_|refine z8 ?_)|((with_reducible refine z29 ?_);intro A B hA hB;(conv=>whnf))|(with_reducible first|refine z1 ?_|refine z2 ?_|refine z12 ?_)|((with_reducible refine gR ?_);(refine z31 rfl ?_;intro K hK;(conv=>whnf)))|((with_reducible refine gF ?_);(refine z33 rfl ?_;intro K hK;(conv=>whnf)))|((intro _;skip)<;>(conv=>whnf))))
  all_goals first | rfl | (exfalso;omega)
 ·rw [if_neg (by omega),if_neg (by omega),if_neg (by omega),if_neg (by omega),if_neg (by omega),if_neg (by omega)]
  (repeat' (first|(with_reducible first|(refine hK _ _ ?_;clear hK K)|(refine hB ?_;clear hA hB A B)|(refine hK _ ?_;clear hK K))|((with_reducible first|refine z25 ?_|refine z26 ?_);intro K hK;(conv=>whnf))|(with_reducible refine z0 ?_)|((first|((with_reducible refine NIf.decY ?s ?_);case s=>assumption)|((with_reducible refine NIf.decN ?s ?_);case s=>first|assumption|omega)|((with_reducible refine NIf.no ?s ?_);case s=>rfl)|(with_reducible refine NIf.dec (fun _=>?_) (fun _=>?_)))<;>(conv=>whnf))|(with_reducible first|refine z3 ?_|refine z4 ?_|refine z6 ?_|refine z8 ?_)|((with_reducible refine z29 ?_);intro A B hA hB;(conv=>whnf))|(with_reducible first|refine z1 ?_|refine z2 ?_)|((with_reducible refine gR ?_);(refine z31 rfl ?_;intro K hK;(conv=>whnf)))|((with_reducible refine gF ?_);(refine z33 rfl ?_;intro K hK;(conv=>whnf)))|((intro _;skip)<;>(conv=>whnf))))
  all_goals first | rfl | (exfalso;omega)
end Go.Proofs.YtaolcaggdddkpaaGreat
