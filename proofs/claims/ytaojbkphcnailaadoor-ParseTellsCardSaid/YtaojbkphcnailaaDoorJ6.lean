import Derived.Test.YtaojbkphcnailaaDoorSxC
import Derived.OrdersHeld
import Derived.Test.YtaojbkphcnailaaDoorJ2
import Derived.Test.YtaojbkphcnailaaDoorJ5
namespace Go.Sx
set_option linter.unusedVariables false
section
variable {P:Program}
def inKept (js:List Nat) (H:List Blk) (sl:List AV) (t:Nat):Bool :=
  match sl[t]? with
  | some (.hp _ _)=>true
  | some (.hs _ _)=>true
  | some (.ptr j _ _)=>!js.contains j&&decide (j<H.length)
  | some (.sl j _ _)=>!js.contains j&&decide (j<H.length)
  | some (.view j _ _ _ _)=>!js.contains j&&decide (j<H.length)
  | some (.raw _)=>true
  | _=>false
def keptLoad (js:List Nat) (H:List Blk) (sl:List AV):Op→Bool
  | .load _ (.tmp t)=>inKept js H sl t
  | .indexAddr _ (.tmp t) _=>inKept js H sl t
  | .slice _ (.tmp t) _ _ _=>inKept js H sl t
  | _=>false
def lenOut (js:List Nat) (H:List Blk) (sl:List AV):Op→Bool
  | .call c=>match c.callee,c.args.toList with
    | .builtin .len,[.tmp t]=>match sl[t]? with
      | some (.sl j _ _)=>js.contains j||decide (H.length≤j)
      | some (.view j _ _ _ _)=>js.contains j||decide (H.length≤j)
      | _=>false
    | _,_=>false
  | _=>false
def easyK (P:Program) (js:List Nat) (H:List Blk) (sl:List AV) (op:Op):Bool:=(pureOp P op&&!lenOut js H sl op)||keptLoad js H sl op
def Kept (js:List Nat) (H m:List Blk):Prop:=(hideF js 0 m).take H.length=H
theorem Kept.mem {js:List Nat} {H m:List Blk} (h:Kept js H m) {w:World} (hm:MemOk m w):MemOk H w:=by
  have h1:=hideF_ok (js:=js) 0 hm
  exact ((MemFits.pre H.length h) w h1).1
def nextK (P:Program) (js:List Nat) (H:List Blk) (sl:List AV) (done:List Nat):Nat→List Oper→Option (Nat × Oper)
  | _,[]=>none
  | i,o::os=>match done.contains i,readyO o done,easyK P js H sl o.op with
    | false,true,true=>some (i,o)
    | _,_,_=>nextK P js H sl done (i+1) os
theorem nextK_at {js:List Nat} {H:List Blk} {sl:List AV} {done:List Nat}:∀ (os:List Oper) (i j:Nat) (o:Oper),nextK P js H sl done i os=some (j,o)→∃ t,j=i+t∧os[t]?=some o
  | [],_,_,_,h=>by simp [nextK] at h
  | x::os,i,j,o,h=>by
    unfold nextK at h
    split at h
    · simp only [Option.some.injEq,Prod.mk.injEq] at h
      obtain ⟨rfl,rfl⟩:=h
      exact ⟨0,rfl,rfl⟩
    · obtain ⟨t,h1,h2⟩:=nextK_at os (i+1) j o h
      exact ⟨t+1,by omega,by simpa using h2⟩
def KpS (H:List Blk) (w:World):Prop:=MemOk H w
@[irreducible] def NOrdK (P:Program) (js:List Nat) (H:List Blk) (l:List Oper) (n:Nat) (done:List Nat) (sl:List AV) (m:List Blk) (k:List AV→List Blk→Prop):Prop :=
  ∀ (w0:World) (S:Own) (a:Act) (w:World),Sim w0 S sl m a w→wpAnyH P .any l.toArray (OrdQ w0 S k) (KpS H) n (listedOf l.length done) a w
@[irreducible] def NEachK (P:Program) (js:List Nat) (H:List Blk) (l:List Oper) (n:Nat) (done:List Nat) (sl:List AV) (m:List Blk) (k:List AV→List Blk→Prop) (rs:List (Nat × Oper)):Prop :=
  ∀ x∈rs,∀ (w0:World) (S:Own) (a:Act) (w:World),Sim w0 S sl m a w→l.toArray[x.1]?=some x.2→wpOp P l.toArray (OrdQ w0 S k) x.1 (fun a w=>KpS H w∧wpAnyH P .any l.toArray (OrdQ w0 S k) (KpS H) n (listedOf l.length (x.1::done)) a w) a w
theorem st_orderK {Q:Post} {sl:List AV} {m:List Blk} {id:Nat} {l:List Oper} {js:List Nat} {H:List Blk} (hF:Kept js H m) (h1:P.follows .mixedOrders=true) (n:Nat) (hn:l.length=n) (h:NOrdK P js H l n [] sl m (normS Q)):codeK P (.region id l.toArray true) sl m Q:=by
  simp only [codeK]
  subst hn
  unfold NDraw
  intro id w0 S a w hs
  unfold NOrdK at h
  refine wp_region_held (S:=KpS H) h1 ?_
  have:=h w0 S a { w with drawn:=w.drawn+1 } ⟨hs.slots,hs.defers,hs.mem.keep (Nat.le_refl _) (fun _ _ _ _=>rfl),⟨hs.fr.os,hs.fr.tape,hs.fr.output,hs.fr.size,hs.fr.block⟩,hs.fresh⟩
  show wpAnyH P .any l.toArray (OrdQ w0 S (normS Q)) _ _ _ a _
  simpa [listedOf] using this
section
variable {js:List Nat} {H:List Blk} {l:List Oper} {n i:Nat} {done:List Nat} {sl:List AV} {m:List Blk} {k:List AV→List Blk→Prop}
theorem ordK_first {o:Oper} {v:AV} {sl':List AV} (hn:nextK P js H sl done 0 l=some (i,o)) (hc:chkP l done i=true) (hF:Kept js H m)
    (h:NOrdK P js H l n (i::done) sl' m k) {w0:World} {S:Own} {a:Act} {w:World} (hs:Sim w0 S sl m a w) (hy:YieldsIf P l.toArray (KpS H) o v.den a) (hs':SlotsOk sl' (a.put o.dst v.den).tmps) :
    wpAnyH P .any l.toArray (OrdQ w0 S k) (KpS H) (n+1) (listedOf l.length done) a w:=by
  obtain ⟨t,ht,ho⟩:=nextK_at l 0 i o hn
  obtain rfl:i=t:=by omega
  simp only [chkP,Bool.and_eq_true] at hc
  obtain ⟨⟨h1,h2⟩,h3⟩:=hc
  have ho':l.toArray[i]?=some o:=by simpa using ho
  unfold NOrdK at h
  exact wpAnyH_take ho' h1 h2 h3 (fun c a w hq=>by cases hq.1) hy (hF.mem hs.mem) (h w0 S _ w (hs.step hs' hs.mem hs.fr hs.fresh))
theorem st_ordK1 {d:Option Tmp} {op:Op} {t:TypeId} {p:String} {e:Array Edge} (hn:nextK P js H sl done 0 l=some (i,⟨d,op,t,p,e,none⟩)) (hc:chkP l done i=true) (hF:Kept js H m)
    (h:∀ K:List AV→Prop,(∀ sl,NOrdK P js H l n (i::done) sl m k→K sl)→opV P sl H op fun v=>dstK sl d v K):NOrdK P js H l (n+1) done sl m k:=by
  unfold NOrdK
  intro w0 S a w hs
  obtain ⟨v,h1,h2⟩:=opV_spec hs.slots (h _ fun _ h=>h)
  obtain ⟨sl',h3,h4⟩:=dstK_spec h1 hs.slots
  exact ordK_first hn hc hF h3 hs (.inl ⟨rfl,fun w hw=>h2 w hw _ rfl⟩) h4
theorem st_ordK1g {d:Option Tmp} {op:Op} {t:TypeId} {p:String} {e:Array Edge} {g:Nat × Bool} (hn:nextK P js H sl done 0 l=some (i,⟨d,op,t,p,e,some g⟩)) (hc:chkP l done i=true) (hF:Kept js H m)
    (h:∀ K:List AV→Prop,(∀ sl,NOrdK P js H l n (i::done) sl m k→K sl)→guardK l.toArray sl g.1 g.2 (opV P sl H op fun v=>dstK sl d v K) (dstK sl d (.raw undef) K)):NOrdK P js H l (n+1) done sl m k:=by
  unfold NOrdK
  intro w0 S a w hs
  rcases guardK_spec (h _ fun _ h=>h) hs.slots (o:=⟨d,op,t,p,e,some g⟩) rfl with ⟨hw,h⟩ | ⟨hw,h⟩
  · obtain ⟨v,h1,h2⟩:=opV_spec hs.slots h
    obtain ⟨sl',h3,h4⟩:=dstK_spec h1 hs.slots
    exact ordK_first hn hc hF h3 hs (.inl ⟨hw,fun w hw=>h2 w hw _ rfl⟩) h4
  · obtain ⟨sl',h3,h4⟩:=dstK_spec h hs.slots
    exact ordK_first (v:=.raw undef) hn hc hF h3 hs (.inr ⟨hw,rfl⟩) h4
theorem st_ordKA {rs:List (Nat × Oper)} (_hn:nextK P js H sl done 0 l=none) (hr:readys done 0 l=rs) (hc:chkR l done rs=true) (hne:rs≠[]) (h:NEachK P js H l n done sl m k rs):NOrdK P js H l (n+1) done sl m k:=by
  unfold NOrdK
  intro w0 S a w hs
  have hc:Region.ready .any l.toArray (listedOf l.length done)=rs.map (·.1):=by simpa [chkR] using hc
  refine wpAnyH_all hc (fun e=>hne (by simpa using e)) fun i hi=>?_
  obtain ⟨x,hx,rfl⟩:=List.mem_map.1 hi
  obtain ⟨t,h1,h2⟩:=readys_at l 0 x (hr ▸ hx)
  unfold NEachK at h
  exact h x hx w0 S a w hs (by rw [h1];simpa using h2)
theorem st_ordK0 (_hr:readys done 0 l=[]) (hc:chkR l done []=true) (h:k sl m):NOrdK P js H l n done sl m k:=by
  unfold NOrdK
  intro w0 S a w hs
  have hc:Region.ready .any l.toArray (listedOf l.length done)=[]:=by simpa [chkR] using hc
  exact wpAnyH_done hc ⟨rfl,sl,m,h,hs⟩ n
theorem st_eachK0:NEachK P js H l n done sl m k []:=by unfold NEachK;intro x hx;cases hx
theorem st_eachK {rs:List (Nat × Oper)} {d:Option Tmp} {op:Op} {t:TypeId} {p:String} {e:Array Edge}
    (h:∀ K:List AV→List Blk→Prop,(∀ sl m,NOrdK P js H l n (i::done) sl m k→K sl m)→opM P sl m op fun v m'=>NH (Kept js H m') (dstK sl d v fun sl'=>K sl' m')) (hr:NEachK P js H l n done sl m k rs):NEachK P js H l n done sl m k ((i,⟨d,op,t,p,e,none⟩)::rs):=by
  unfold NEachK at *
  intro x hx
  rcases List.mem_cons.1 hx with rfl | hx
  · intro w0 S a w hs ho
    unfold wpOp
    simp only [ho]
    rw [if_pos (show Region.wanted ⟨d,op,t,p,e,none⟩ (yielded l.toArray a.tmps)=true from rfl)]
    refine .inl (opM_spec hs.slots hs.mem hs.fr hs.fresh (o:=⟨d,op,t,p,e,none⟩) (h _ fun _ _ h=>h) fun v m' w' hl=>?_)
    obtain ⟨h0,hk⟩:=NH_iff.1 hl.k
    obtain ⟨sl',h1,h2⟩:=dstK_spec hk hs.slots
    unfold NOrdK at h1
    exact ⟨h0.mem hl.mem,h1 w0 S _ _ (hs.step h2 hl.mem hl.fr hl.fresh)⟩
  · exact hr x hx
theorem st_eachKg {rs:List (Nat × Oper)} {d:Option Tmp} {op:Op} {t:TypeId} {p:String} {e:Array Edge} {g:Nat × Bool} (hF:Kept js H m)
    (h:∀ K:List AV→List Blk→Prop,(∀ sl m,NOrdK P js H l n (i::done) sl m k→K sl m)→guardK l.toArray sl g.1 g.2 (opM P sl m op fun v m'=>NH (Kept js H m') (dstK sl d v fun sl'=>K sl' m')) (dstK sl d (.raw undef) fun sl'=>K sl' m)) (hr:NEachK P js H l n done sl m k rs):NEachK P js H l n done sl m k ((i,⟨d,op,t,p,e,some g⟩)::rs):=by
  unfold NEachK at *
  intro x hx
  rcases List.mem_cons.1 hx with rfl | hx
  · intro w0 S a w hs ho
    unfold wpOp
    simp only [ho]
    rcases guardK_spec (h _ fun _ _ h=>h) hs.slots (o:=⟨d,op,t,p,e,some g⟩) rfl with ⟨hw,h⟩ | ⟨hw,h⟩
    · rw [if_pos hw]
      refine .inl (opM_spec hs.slots hs.mem hs.fr hs.fresh (o:=⟨d,op,t,p,e,some g⟩) h fun v m' w' hl=>?_)
      obtain ⟨h0,hk⟩:=NH_iff.1 hl.k
      obtain ⟨sl',h1,h2⟩:=dstK_spec hk hs.slots
      unfold NOrdK at h1
      exact ⟨h0.mem hl.mem,h1 w0 S _ _ (hs.step h2 hl.mem hl.fr hl.fresh)⟩
    · rw [if_neg (by simp [hw])]
      obtain ⟨sl',h3,h4⟩:=dstK_spec h hs.slots
      unfold NOrdK at h3
      exact ⟨hF.mem hs.mem,h3 w0 S _ _ (hs.step (v:=undef) h4 hs.mem hs.fr hs.fresh)⟩
  · exact hr x hx
def downK:Nat→List Nat
  | 0=>[]
  | j+1=>j::downK j
@[irreducible] def NOrdS (P:Program) (js:List Nat) (H:List Blk) (l:List Oper) (n j:Nat) (rest:List Oper) (sl:List AV) (m:List Blk) (k:List AV→List Blk→Prop):Prop :=
  l.drop j=rest→NOrdK P js H l n (downK j) sl m k
theorem st_orderS {Q:Post} {id:Nat} (js:List Nat) (hH:hideF js 0 m=H) (hF:Kept js H m) (h1:P.follows .mixedOrders=true) (n:Nat) (hn:l.length=n) (h:NOrdS P js H l n 0 l sl m (normS Q)):codeK P (.region id l.toArray true) sl m Q:=by
  unfold NOrdS at h
  exact st_orderK hF h1 n hn (h rfl)
theorem st_ordSout {j:Nat} {rest:List Oper} (h:NOrdK P js H l n (downK j) sl m k):NOrdS P js H l n j rest sl m k:=by
  unfold NOrdS
  intro _
  exact h
end
end
theorem gNOK {P:Program} {js:List Nat} {H:List Blk} {l:List Oper} {n:Nat} {sl:List AV} {m:List Blk} {k:List AV→List Blk→Prop} {done:List Nat} (h:NOrdK P js H l n done sl m k):NOrdK P js H l n done sl m k:=h
theorem gNEK {P:Program} {js:List Nat} {H:List Blk} {l:List Oper} {n:Nat} {sl:List AV} {m:List Blk} {k:List AV→List Blk→Prop} {done:List Nat} {rs:List (Nat × Oper)} (h:NEachK P js H l n done sl m k rs):NEachK P js H l n done sl m k rs:=h
theorem gNRK {P:Program} {js:List Nat} {H:List Blk} {l:List Oper} {n:Nat} {sl:List AV} {m:List Blk} {k:List AV→List Blk→Prop} {j:Nat} {rest:List Oper} (h:NOrdS P js H l n j rest sl m k):NOrdS P js H l n j rest sl m k:=h
theorem gKept {js:List Nat} {H m:List Blk} (h:(hideF js 0 m).take H.length=H):Kept js H m:=h
end Go.Sx
namespace Go.Proofs.YtaojbkphcnailaaDoor
open Go.Sx
set_option maxRecDepth 20000
set_option linter.unusedSimpArgs false
set_option linter.unusedVariables false
set_option maxHeartbeats 4000000
set_option linter.unusedVariables false
set_option linter.unusedSectionVars false
namespace Ps
abbrev Toks (F:Heap) (v:Value) (l:List Lx.T):Prop:=RowF F 4 (fun x vs=>vs=Lx.tokV x) v l
theorem Toks.mono {F G:Heap} (h:F.le G) {v:Value} {l:List Lx.T} (hv:Toks F v l):Toks G v l:=RowF.mono h (fun _ _ h=>h) hv
theorem Toks.get {F:Heap} {v:Value} {l:List Lx.T} (hv:Toks F v l) {i:Nat} {x:Lx.T} (hx:l[i]?=some x):F.c ((addrOf v).add (i*4)) (.int .i64 x.k)∧F.c ((addrOf v).add (i*4+1)) (.int .i64 x.n)∧F.c ((addrOf v).add (i*4+2)) (.string ⟨x.s.toArray⟩)∧F.c ((addrOf v).add (i*4+3)) (.int .i64 x.at_):=by
  obtain ⟨us,h1,_,h2⟩:=hv.at_ i x hx
  subst h1
  obtain ⟨c0,c1,c2,c3,_⟩:=h2
  exact ⟨c0,c1,c2,c3⟩
def pB (b:Nat) (v:Value) (n i:Nat):Blk:=⟨⟨b,0,none⟩,[.hs v n,.int .i64 i],.var 93⟩
def wrong (at_:Int):List PanicEntry:=[{ v:=.iface 90 (.int .i64 at_),recovered:=false }]
end Ps
section
variable (F:Heap) (v:Value) (l:List Lx.T) (hv:Ps.Toks F v l) (hn:l.length≤1000) (b:Nat)
include hv hn
theorem now29_c {i:Nat} {x:Lx.T} (hx:l[i]?=some x):NCall Tryd.prog 57 [.ptr 1 ⟨b,0,none⟩ 0] [hpB F,Ps.pB b v l.length i] fun r m=>r = .agg [.int .i64 x.k,.int .i64 x.n,.str x.s,.int .i64 x.at_]∧m=[hpB F,Ps.pB b v l.length i]:=by
  refine NCall.fits (K:=fun r m=>r = .agg [.int .i64 x.k,.int .i64 x.n,.str x.s,.int .i64 x.at_]∧MemFits m [hpB F,Ps.pB b v l.length i]) ?_ fun r m' h=>⟨r,_,rfl,h.2,h.1,rfl⟩
  have hok:=hv.ok
  have hi:=(List.getElem?_eq_some_iff.1 hx).1
  obtain ⟨c0,c1,c2,c3⟩:=hv.get hx
  unfold Ps.pB
  refine ncall_of Tryd.func57 rfl (by decide) ?_
  (repeat' (first|(with_reducible first|(refine hK _ _ ?_;clear hK K)|(refine hK _ ?_;clear hK K))|((with_reducible refine z25 ?_);intro K hK;(conv=>whnf))|(with_reducible refine z0 ?_)|((first|(with_reducible first|refine NN.cast ?_|refine NN.a5 ?_|refine NN.keep ?_)|((with_reducible refine NH.mk ?s ?_);case s=>(and_intros<;>first|with_reducible rfl|((with_reducible refine gOnes ?_);rfl)|((with_reducible refine gLen ?_);rfl)|((with_reducible refine gKept ?_);exact rfl)|omega|rfl))|(with_reducible refine NLd.of (by with_reducible assumption) ?_))<;>(conv=>whnf))|(with_reducible refine st_ordSout ?_)|((with_reducible refine gNOK ?_);(first|(refine st_ordK1 rfl (by kernel_rfl) rfl ?_;intro K hK;(conv=>whnf))|refine st_ordK0 rfl (by kernel_rfl) ?_|refine st_ordKA rfl rfl (by kernel_rfl) (by intro h;cases h) ?_))|((with_reducible refine gNEK ?_);(first|(refine st_eachK ?_ ?_;(intro K hK;(conv=>whnf)))|exact st_eachK0))|((with_reducible refine gX ?_);(first|refine st_orderS [2] rfl rfl (by kernel_rfl) _ rfl ?_|(with_reducible first|refine z3 ?_|refine z4 ?_|refine z8 ?_)))|(with_reducible first|refine z1 ?_|refine z2 ?_)|((with_reducible refine gR ?_);(refine z31 rfl ?_;intro K hK;(conv=>whnf)))|((with_reducible refine gF ?_);(refine z33 rfl ?_;intro K hK;(conv=>whnf)))|((intro _;skip)<;>(conv=>whnf))))
  all_goals exact ⟨rfl,MemFits.pre 2 rfl⟩
theorem fail29_c {i:Nat} {x:Lx.T} (hx:l[i]?=some x):NCallX Tryd.prog 58 [.ptr 1 ⟨b,0,none⟩ 0] [hpB F,Ps.pB b v l.length i] (fun _ _=>False) fun ch m=>ch=Ps.wrong x.at_∧m=[hpB F,Ps.pB b v l.length i]:=by
  have cn:=now29_c F v l hv hn b hx
  unfold Ps.pB at cn ⊢
  refine ncallx_of Tryd.func58 rfl (by decide) ?_
  (repeat' (first|(with_reducible first|(refine hK _ _ ?_;clear hP hK Kp K)|(refine hP _ _ ?_;clear hP hK Kp K)|(refine hK _ ?_;clear hK K))|((with_reducible refine st_opX ?_);intro K Kp hK hP;(conv=>whnf))|(((with_reducible refine gCX ?_);(refine NCallX.of ?_;((with_reducible refine NCall.isF 57 ?_);refine NCall.subE [0,1] (cn) rfl (by decide) rfl rfl ?_)))<;>(conv=>whnf))|(with_reducible first|refine st_regionX ?_|refine st_retX_panic ?_)|((with_reducible refine gFX ?_);(refine st_funcX rfl ?_;intro K hK;(conv=>whnf)))))
  all_goals exact ⟨rfl,rfl⟩
theorem is29_c {i:Nat} {x:Lx.T} (hx:l[i]?=some x) (s:List UInt8):NCall Tryd.prog 84 [.ptr 1 ⟨b,0,none⟩ 0,.str s] [hpB F,Ps.pB b v l.length i] fun r m=>r = .bool ((decide (x.k=1)||decide (x.k=3))&&decide (x.s=s))∧m=[hpB F,Ps.pB b v l.length (if ((decide (x.k=1)||decide (x.k=3))&&decide (x.s=s))=true then i+1 else i)]:=by
  have hi:=(List.getElem?_eq_some_iff.1 hx).1
  have cn:=now29_c F v l hv hn b hx
  have key:∀ q:Bool,q=((decide (x.k=1)||decide (x.k=3))&&decide (x.s=s))→NCall Tryd.prog 84 [.ptr 1 ⟨b,0,none⟩ 0,.str s] [hpB F,Ps.pB b v l.length i] fun r m=>r = .bool q∧MemFits m [hpB F,Ps.pB b v l.length (if q=true then i+1 else i)]:=fun q hq=>by
    unfold Ps.pB at cn ⊢
    refine ncall_of Tryd.func84 rfl (by decide) ?_
    by_cases h1:x.k=1∨x.k=3
    · rw [show (decide (x.k=1)||decide (x.k=3))=true by simpa using h1,Bool.true_and] at hq
      by_cases h2:x.s=s
      · rw [decide_eq_true h2] at hq
        subst hq h2
        rcases h1 with h1 | h1
        · (repeat' (first|(with_reducible first|(refine hK _ _ ?_;clear hK K)|(refine hA ?_;clear hA hB A B)|(refine hK _ ?_;clear hK K))|((with_reducible first|refine z25 ?_|refine z26 ?_);intro K hK;(conv=>whnf))|(with_reducible refine z0 ?_)|((first|((with_reducible refine NV.i64 ?s ?_);case s=>omega)|((with_reducible refine NIf.yes ?s ?_);case s=>(simp [h1];done))|(with_reducible refine NN.a5 ?_)|((with_reducible refine NH.mk ?s ?_);case s=>(and_intros<;>first|with_reducible rfl|((with_reducible refine gOnes ?_);rfl)|((with_reducible refine gLen ?_);rfl)))|((with_reducible refine NCall.isF 57 ?_);refine NCall.subE [0,1] (cn) rfl (by decide) rfl rfl ?_))<;>(conv=>whnf))|(with_reducible first|refine z3 ?_|refine z4 ?_|refine z8 ?_)|((with_reducible refine z29 ?_);intro A B hA hB;(conv=>whnf))|(with_reducible first|refine z1 ?_|refine z2 ?_|refine z12 ?_)|((with_reducible refine gR ?_);(refine z31 rfl ?_;intro K hK;(conv=>whnf)))|((with_reducible refine gF ?_);(refine z33 rfl ?_;intro K hK;(conv=>whnf)))|((intro _;skip)<;>(conv=>whnf))))
          all_goals exact ⟨rfl,MemFits.pre 2 rfl⟩
        · (repeat' (first|(with_reducible first|(refine hK _ _ ?_;clear hK K)|(refine hA ?_;clear hA hB A B)|(refine hK _ ?_;clear hK K))|((with_reducible first|refine z25 ?_|refine z26 ?_);intro K hK;(conv=>whnf))|(with_reducible refine z0 ?_)|((first|((with_reducible refine NV.i64 ?s ?_);case s=>omega)|((with_reducible refine NIf.yes ?s ?_);case s=>(simp [h1];done))|((with_reducible refine NIf.no ?s ?_);case s=>(simp [h1];done))|(with_reducible refine NN.a5 ?_)|((with_reducible refine NH.mk ?s ?_);case s=>(and_intros<;>first|with_reducible rfl|((with_reducible refine gOnes ?_);rfl)|((with_reducible refine gLen ?_);rfl)))|((with_reducible refine NCall.isF 57 ?_);refine NCall.subE [0,1] (cn) rfl (by decide) rfl rfl ?_))<;>(conv=>whnf))|(with_reducible first|refine z3 ?_|refine z4 ?_|refine z8 ?_)|((with_reducible refine z29 ?_);intro A B hA hB;(conv=>whnf))|(with_reducible first|refine z1 ?_|refine z2 ?_|refine z12 ?_)|((with_reducible refine gR ?_);(refine z31 rfl ?_;intro K hK;(conv=>whnf)))|((with_reducible refine gF ?_);(refine z33 rfl ?_;intro K hK;(conv=>whnf)))|((intro _;skip)<;>(conv=>whnf))))
          all_goals exact ⟨rfl,MemFits.pre 2 rfl⟩
      · rw [decide_eq_false h2] at hq
        subst hq
        rcases h1 with h1 | h1
        · (repeat' (first|(with_reducible first|(refine hK _ _ ?_;clear hK K)|(refine hB ?_;clear hA hB A B)|(refine hK _ ?_;clear hK K))|((with_reducible first|refine z25 ?_|refine z26 ?_);intro K hK;(conv=>whnf))|(with_reducible refine z0 ?_)|((first|((with_reducible refine NIf.yes ?s ?_);case s=>(simp [h1,h2];done))|((with_reducible refine NIf.no ?s ?_);case s=>(simp [h1,h2];done))|(with_reducible refine NN.a5 ?_)|((with_reducible refine NH.mk ?s ?_);case s=>(and_intros<;>first|with_reducible rfl|((with_reducible refine gOnes ?_);rfl)|((with_reducible refine gLen ?_);rfl)))|((with_reducible refine NCall.isF 57 ?_);refine NCall.subE [0,1] (cn) rfl (by decide) rfl rfl ?_))<;>(conv=>whnf))|(with_reducible first|refine z3 ?_|refine z4 ?_|refine z6 ?_|refine z8 ?_)|((with_reducible refine z29 ?_);intro A B hA hB;(conv=>whnf))|(with_reducible first|refine z1 ?_|refine z2 ?_)|((with_reducible refine gR ?_);(refine z31 rfl ?_;intro K hK;(conv=>whnf)))|((with_reducible refine gF ?_);(refine z33 rfl ?_;intro K hK;(conv=>whnf)))|((intro _;skip)<;>(conv=>whnf))))
          all_goals exact ⟨rfl,MemFits.pre 2 rfl⟩
        · (repeat' (first|(with_reducible first|(refine hK _ _ ?_;clear hK K)|(refine hB ?_;clear hA hB A B)|(refine hK _ ?_;clear hK K))|((with_reducible first|refine z25 ?_|refine z26 ?_);intro K hK;(conv=>whnf))|(with_reducible refine z0 ?_)|((first|((with_reducible refine NIf.yes ?s ?_);case s=>(simp [h1,h2];done))|((with_reducible refine NIf.no ?s ?_);case s=>(simp [h1,h2];done))|(with_reducible refine NN.a5 ?_)|((with_reducible refine NH.mk ?s ?_);case s=>(and_intros<;>first|with_reducible rfl|((with_reducible refine gOnes ?_);rfl)|((with_reducible refine gLen ?_);rfl)))|((with_reducible refine NCall.isF 57 ?_);refine NCall.subE [0,1] (cn) rfl (by decide) rfl rfl ?_))<;>(conv=>whnf))|(with_reducible first|refine z3 ?_|refine z4 ?_|refine z6 ?_|refine z8 ?_)|((with_reducible refine z29 ?_);intro A B hA hB;(conv=>whnf))|(with_reducible first|refine z1 ?_|refine z2 ?_)|((with_reducible refine gR ?_);(refine z31 rfl ?_;intro K hK;(conv=>whnf)))|((with_reducible refine gF ?_);(refine z33 rfl ?_;intro K hK;(conv=>whnf)))|((intro _;skip)<;>(conv=>whnf))))
          all_goals exact ⟨rfl,MemFits.pre 2 rfl⟩
    · rw [show (decide (x.k=1)||decide (x.k=3))=false by simpa using h1,Bool.false_and] at hq
      subst hq
      have h3:x.k≠1:=fun h=>h1 (.inl h)
      have h4:x.k≠3:=fun h=>h1 (.inr h)
      (repeat' (first|(with_reducible first|(refine hK _ _ ?_;clear hK K)|(refine hB ?_;clear hA hB A B)|(refine hK _ ?_;clear hK K))|((with_reducible first|refine z25 ?_|refine z26 ?_);intro K hK;(conv=>whnf))|(with_reducible refine z0 ?_)|((first|((with_reducible refine NIf.no ?s ?_);case s=>(simp [h3,h4];done))|(with_reducible refine NN.a5 ?_)|((with_reducible refine NH.mk ?s ?_);case s=>(and_intros<;>first|with_reducible rfl|((with_reducible refine gOnes ?_);rfl)|((with_reducible refine gLen ?_);rfl)))|((with_reducible refine NCall.isF 57 ?_);refine NCall.subE [0,1] (cn) rfl (by decide) rfl rfl ?_))<;>(conv=>whnf))|(with_reducible first|refine z3 ?_|refine z4 ?_|refine z6 ?_|refine z8 ?_)|((with_reducible refine z29 ?_);intro A B hA hB;(conv=>whnf))|(with_reducible first|refine z1 ?_|refine z2 ?_)|((with_reducible refine gR ?_);(refine z31 rfl ?_;intro K hK;(conv=>whnf)))|((with_reducible refine gF ?_);(refine z33 rfl ?_;intro K hK;(conv=>whnf)))|((intro _;skip)<;>(conv=>whnf))))
      all_goals exact ⟨rfl,MemFits.pre 2 rfl⟩
  exact NCall.fits (key _ rfl) fun r m' h=>⟨r,_,rfl,h.2,h.1,rfl⟩
theorem must29_c {i:Nat} {x:Lx.T} (hx:l[i]?=some x) (s:List UInt8):NCallX Tryd.prog 106 [.ptr 1 ⟨b,0,none⟩ 0,.str s] [hpB F,Ps.pB b v l.length i] (fun r m=>((decide (x.k=1)||decide (x.k=3))&&decide (x.s=s))=true∧r = .tup []∧m=[hpB F,Ps.pB b v l.length (i+1)]) fun ch m=>((decide (x.k=1)||decide (x.k=3))&&decide (x.s=s))=false∧ch=Ps.wrong x.at_∧m=[hpB F,Ps.pB b v l.length i]:=by
  have ci:=is29_c F v l hv hn b hx s
  have cf:=fail29_c F v l hv hn b hx
  generalize ((decide (x.k=1)||decide (x.k=3))&&decide (x.s=s))=q at *
  unfold Ps.pB at ci cf ⊢
  refine ncallx_of Tryd.func106 rfl (by decide) ?_
  cases q with
  | true =>
    rw [if_pos rfl] at ci
    (repeat' (first|(with_reducible first|(refine hK _ _ ?_;clear hP hK Kp K)|(refine hB ?_;clear hA hB A B)|(refine hK _ ?_;clear hK K))|((with_reducible refine st_opX ?_);intro K Kp hK hP;(conv=>whnf))|(with_reducible refine st_nilX ?_)|((first|with_reducible refine NIf.not_ ?_|((with_reducible refine NIf.yes ?s ?_);case s=>rfl)|((with_reducible refine gCX ?_);(refine NCallX.of ?_;((with_reducible refine NCall.isF 84 ?_);refine NCall.subE [0,1] (ci) rfl (by decide) rfl rfl ?_))))<;>(conv=>whnf))|(with_reducible first|refine st_seqX ?_|refine st_regionX ?_|refine st_skipX ?_)|((with_reducible refine st_condX ?_);intro A B hA hB;(conv=>whnf))|(with_reducible refine st_thenX ?_)|((with_reducible refine gRX ?_);(refine st_retX_normal rfl ?_;intro K hK;(conv=>whnf)))|((with_reducible refine gFX ?_);(refine st_funcX rfl ?_;intro K hK;(conv=>whnf)))))
    all_goals exact ⟨rfl,rfl,rfl⟩
  | false =>
    rw [if_neg (by decide)] at ci
    (repeat' (first|(with_reducible first|(refine hK _ _ ?_;clear hP hK Kp K)|(refine hP _ _ ?_;clear hP hK Kp K))|(with_reducible first|(refine hA ?_;clear hA hB A B)|(refine hK _ ?_;clear hK K))|((with_reducible refine gOX ?_);(first|((with_reducible refine st_opX ?_);intro K Kp hK hP;(conv=>whnf))|(with_reducible refine st_nilX ?_)))|((first|((with_reducible refine gI ?_);(first|with_reducible refine NIf.not_ ?_|((with_reducible refine NIf.no ?s ?_);case s=>rfl)))|((with_reducible refine gCX ?_);(first|((with_reducible refine NCallX.isF 58 ?_);refine NCallX.subw [0,1] _ _ (cf) rfl (by decide) rfl ?_ ?_;((rintro _ _ ⟨⟩)<;>refine ⟨Nat.le_of_ble_eq_true rfl,_,rfl,?_⟩);rotate_right;((rintro _ _ ⟨rfl,rfl⟩)<;>refine ⟨Nat.le_of_ble_eq_true rfl,?_⟩))|(refine NCallX.of ?_;(((with_reducible refine NCall.isF 84 ?_);refine NCall.subE [0,1] (ci) rfl (by decide) rfl rfl ?_))))))<;>(conv=>whnf))|((with_reducible refine gXX ?_);(first|(with_reducible first|refine st_seqX ?_|refine st_regionX ?_)|((with_reducible refine st_condX ?_);intro A B hA hB;(conv=>whnf))))|(with_reducible refine st_thenX ?_)|((with_reducible refine gRX ?_);((with_reducible refine st_retX_panic ?_)))|((with_reducible refine gFX ?_);((refine st_funcX rfl ?_);intro K hK;(conv=>whnf)))))
    all_goals exact ⟨rfl,rfl,rfl⟩
theorem number29_c {i:Nat} {x:Lx.T} (hx:l[i]?=some x):NCallX Tryd.prog 108 [.ptr 1 ⟨b,0,none⟩ 0] [hpB F,Ps.pB b v l.length i] (fun r m=>x.k=2∧r = .int .i64 x.n∧m=[hpB F,Ps.pB b v l.length (i+1)]) fun ch m=>x.k≠2∧ch=Ps.wrong x.at_∧m=[hpB F,Ps.pB b v l.length i]:=by
  refine NCallX.fits (K:=fun r m=>x.k=2∧r = .int .i64 x.n∧MemFits m [hpB F,Ps.pB b v l.length (i+1)]) (Kp:=fun ch m=>x.k≠2∧ch=Ps.wrong x.at_∧MemFits m [hpB F,Ps.pB b v l.length i]) ?_ (fun r m' h=>⟨r,_,rfl,h.2.2,h.1,h.2.1,rfl⟩) fun ch m' h=>⟨_,h.2.2,h.1,h.2.1,rfl⟩
  have hi:=(List.getElem?_eq_some_iff.1 hx).1
  have cn:=now29_c F v l hv hn b hx
  have cf:=fail29_c F v l hv hn b hx
  unfold Ps.pB at cn cf ⊢
  refine ncallx_of Tryd.func108 rfl (by decide) ?_
  by_cases h:x.k=2
  · (repeat' (first|(with_reducible first|(refine hK _ _ ?_;clear hP hK Kp K)|(refine hB ?_;clear hA hB A B)|(refine hK _ ?_;clear hK K))|((with_reducible refine st_opX ?_);intro K Kp hK hP;(conv=>whnf))|(with_reducible refine st_nilX ?_)|((first|((with_reducible refine NV.i64 ?s ?_);case s=>omega)|((with_reducible refine NIf.no ?s ?_);case s=>(simp [h];done))|(with_reducible refine NN.a5 ?_)|((with_reducible refine NH.mk ?s ?_);case s=>(and_intros<;>first|with_reducible rfl|((with_reducible refine gOnes ?_);rfl)|((with_reducible refine gLen ?_);rfl)))|((with_reducible refine gCX ?_);(refine NCallX.of ?_;((with_reducible refine NCall.isF 57 ?_);refine NCall.subE [0,1] (cn) rfl (by decide) rfl rfl ?_))))<;>(conv=>whnf))|(with_reducible first|refine st_seqX ?_|refine st_regionX ?_|refine st_skipX ?_|refine st_retX ?_)|((with_reducible refine st_condX ?_);intro A B hA hB;(conv=>whnf))|(with_reducible refine st_thenX ?_)|((with_reducible refine gRX ?_);(refine st_retX_ret rfl ?_;intro K hK;(conv=>whnf)))|((with_reducible refine gFX ?_);(refine st_funcX rfl ?_;intro K hK;(conv=>whnf)))|((intro _;skip)<;>(conv=>whnf))))
    all_goals exact ⟨h,rfl,MemFits.pre 2 rfl⟩
  · (repeat' (first|(with_reducible first|(refine hK _ _ ?_;clear hP hK Kp K)|(refine hP _ _ ?_;clear hP hK Kp K))|(with_reducible first|(refine hA ?_;clear hA hB A B)|(refine hK _ ?_;clear hK K))|((with_reducible refine gOX ?_);(first|((with_reducible refine st_opX ?_);intro K Kp hK hP;(conv=>whnf))|(with_reducible refine st_nilX ?_)))|((first|((with_reducible refine gI ?_);((((with_reducible refine NIf.yes ?s ?_);case s=>(simp [h];done)))))|((with_reducible refine gN ?_);(with_reducible refine NN.a5 ?_))|((with_reducible refine gH ?_);((with_reducible refine NH.mk ?s ?_);case s=>(and_intros<;>first|with_reducible rfl|((with_reducible refine gOnes ?_);rfl)|((with_reducible refine gLen ?_);rfl))))|((with_reducible refine gCX ?_);(first|((with_reducible refine NCallX.isF 58 ?_);refine NCallX.subw [0,1] _ _ (cf) rfl (by decide) rfl ?_ ?_;((rintro _ _ ⟨⟩)<;>refine ⟨Nat.le_of_ble_eq_true rfl,_,rfl,?_⟩);rotate_right;((rintro _ _ ⟨rfl,rfl⟩)<;>refine ⟨Nat.le_of_ble_eq_true rfl,?_⟩))|(refine NCallX.of ?_;(((with_reducible refine NCall.isF 57 ?_);refine NCall.subE [0,1] (cn) rfl (by decide) rfl rfl ?_))))))<;>(conv=>whnf))|((with_reducible refine gXX ?_);(first|(with_reducible first|refine st_seqX ?_|refine st_regionX ?_)|((with_reducible refine st_condX ?_);intro A B hA hB;(conv=>whnf))))|(with_reducible first|refine st_thenX ?_|refine st_thenX_panic ?_)|((with_reducible refine gRX ?_);((with_reducible refine st_retX_panic ?_)))|((with_reducible refine gFX ?_);((refine st_funcX rfl ?_);intro K hK;(conv=>whnf)))|((intro _;skip)<;>(conv=>whnf))))
    all_goals exact ⟨h,rfl,MemFits.pre 2 rfl⟩
end
end Go.Proofs.YtaojbkphcnailaaDoor
