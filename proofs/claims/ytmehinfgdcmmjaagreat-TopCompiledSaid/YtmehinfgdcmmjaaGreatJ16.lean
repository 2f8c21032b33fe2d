import Derived.Test.YtmehinfgdcmmjaaGreatSxC
import Derived.OrdersHeld
import Derived.Test.YtmehinfgdcmmjaaGreatJ13
import Derived.Test.YtmehinfgdcmmjaaGreatJ15
namespace Go.Sx
section
variable {P:Program}
def l5 (sl:List AV) (t:Nat):Bool :=
 match sl[t]? with
 | some (.hp _ _)=>true
 | some (.hs _ _)=>true
 | _=>false
def pG (sl:List AV):Op→Bool
 | .load _ (.tmp t)=>l5 sl t
 | .indexAddr _ (.tmp t) _=>l5 sl t
 | .slice _ (.tmp t) _ _ _=>l5 sl t
 | _=>false
def fi (P:Program) (sl:List AV) (done:List Nat):Nat→List Oper→Option (Nat × Oper)
 | _,[]=>none
 | i,o::os=>match done.contains i,jM o done,lc P o.op,pG sl o.op with
  | false,true,true,_=>some (i,o)
  | false,true,false,true=>some (i,o)
  | _,_,_,_=>fi P sl done (i+1) os
theorem kP {sl:List AV} {done:List Nat}:∀ (os:List Oper) (i j:Nat) (o:Oper),fi P sl done i os=some (j,o)→∃ t,j=i+t∧os[t]?=some o
 | [],_,_,_,h=>by simp [fi] at h
 | x::os,i,j,o,h=>by
  unfold fi at h
  split at h
  iterate 2
   ·simp only [Option.some.injEq,Prod.mk.injEq] at h
    obtain ⟨rfl,rfl⟩:=h
    exact ⟨0,rfl,rfl⟩
  ·obtain ⟨t,h1,h2⟩:=kP os (i+1) j o h
   exact ⟨t+1,by omega,by simpa using h2⟩
def HpS (F:Heap) (w:World):Prop:=(hpB F).holds w
@[irreducible] def bP (P:Program) (F:Heap) (l:List Oper) (n:Nat) (done:List Nat) (sl:List AV) (m:List Blk) (k:List AV→List Blk→Prop):Prop :=
 ∀ (w0:World) (S:Own) (a:Act) (w:World),Sim w0 S sl m a w→wpAnyH P .any l.toArray (fE w0 S k) (HpS F) n (aL l.length done) a w
@[irreducible] def cY (P:Program) (F:Heap) (l:List Oper) (n:Nat) (done:List Nat) (sl:List AV) (m:List Blk) (k:List AV→List Blk→Prop) (rs:List (Nat × Oper)):Prop :=
 ∀ x∈rs,∀ (w0:World) (S:Own) (a:Act) (w:World),Sim w0 S sl m a w→l.toArray[x.1]?=some x.2→wpOp P l.toArray (fE w0 S k) x.1 (fun a w=>HpS F w∧wpAnyH P .any l.toArray (fE w0 S k) (HpS F) n (aL l.length (x.1::done)) a w) a w
theorem nB {Q:Post} {sl:List AV} {m:List Blk} {id:Nat} {l:List Oper} {F:Heap} (_hF:m[0]?=some (hpB F)) (h1:P.follows .mixedOrders=true) (n:Nat) (hn:l.length=n) (h:bP P F l n [] sl m (eF Q)):codeK P (.region id l.toArray true) sl m Q:=by
 simp only [codeK]
 subst hn
 unfold NDraw
 intro id w0 S a w hs
 unfold bP at h
 refine wp_region_held (S:=HpS F) h1 ?_
 have:=h w0 S a { w with drawn:=w.drawn+1 } ⟨hs.slots,hs.defers,hs.mem.keep (Nat.le_refl _) (fun _ _ _ _=>rfl),⟨hs.fr.os,hs.fr.tape,hs.fr.output,hs.fr.size,hs.fr.block⟩,hs.fresh⟩
 show wpAnyH P .any l.toArray (fE w0 S (eF Q)) _ _ _ a _
 simpa [aL] using this
theorem HpS.mem {F:Heap} {w:World} (h:HpS F w):MemOk [hpB F] w:=⟨fun k hk=>by rw [List.mem_singleton.1 hk];exact h,List.pairwise_singleton _ _⟩
section
variable {F:Heap} {l:List Oper} {n i:Nat} {done:List Nat} {sl:List AV} {m:List Blk} {k:List AV→List Blk→Prop}
theorem ey {o:Oper} {v:AV} {sl':List AV} (hn:fi P sl done 0 l=some (i,o)) (hc:fw l done i=true) (hF:m[0]?=some (hpB F))
  (h:bP P F l n (i::done) sl' m k) {w0:World} {S:Own} {a:Act} {w:World} (hs:Sim w0 S sl m a w) (hy:YieldsIf P l.toArray (HpS F) o v.den a) (hs':SlotsOk sl' (a.put o.dst v.den).tmps) :
  wpAnyH P .any l.toArray (fE w0 S k) (HpS F) (n+1) (aL l.length done) a w:=by
 obtain ⟨t,ht,ho⟩:=kP l 0 i o hn
 obtain rfl:i=t:=by omega
 simp only [fw,Bool.and_eq_true] at hc
 obtain ⟨⟨h1,h2⟩,h3⟩:=hc
 have ho':l.toArray[i]?=some o:=by simpa using ho
 unfold bP at h
 exact wpAnyH_take ho' h1 h2 h3 (fun c a w hq=>by cases hq.1) hy (hs.mem.holds _ (List.mem_of_getElem? hF)) (h w0 S _ w (hs.step hs' hs.mem hs.fr hs.fresh))
theorem bo {d:Option Tmp} {op:Op} {t:TypeId} {p:String} {e:Array Edge} (hn:fi P sl done 0 l=some (i,⟨d,op,t,p,e,none⟩)) (hc:fw l done i=true) (hF:m[0]?=some (hpB F))
  (h:∀ K:List AV→Prop,(∀ sl,bP P F l n (i::done) sl m k→K sl)→opV P sl [hpB F] op fun v=>dstK sl d v K):bP P F l (n+1) done sl m k:=by
 unfold bP
 intro w0 S a w hs
 obtain ⟨v,h1,h2⟩:=bu hs.slots (h _ fun _ h=>h)
 obtain ⟨sl',h3,h4⟩:=aI h1 hs.slots
 exact ey hn hc hF h3 hs (.inl ⟨rfl,fun w hw=>h2 w hw.mem _ rfl⟩) h4
theorem bS {d:Option Tmp} {op:Op} {t:TypeId} {p:String} {e:Array Edge} {g:Nat × Bool} (hn:fi P sl done 0 l=some (i,⟨d,op,t,p,e,some g⟩)) (hc:fw l done i=true) (hF:m[0]?=some (hpB F))
  (h:∀ K:List AV→Prop,(∀ sl,bP P F l n (i::done) sl m k→K sl)→guardK l.toArray sl g.1 g.2 (opV P sl [hpB F] op fun v=>dstK sl d v K) (dstK sl d (.raw undef) K)):bP P F l (n+1) done sl m k:=by
 unfold bP
 intro w0 S a w hs
 rcases ad (h _ fun _ h=>h) hs.slots (o:=⟨d,op,t,p,e,some g⟩) rfl with ⟨hw,h⟩ | ⟨hw,h⟩
 ·obtain ⟨v,h1,h2⟩:=bu hs.slots h
  obtain ⟨sl',h3,h4⟩:=aI h1 hs.slots
  exact ey hn hc hF h3 hs (.inl ⟨hw,fun w hw=>h2 w hw.mem _ rfl⟩) h4
 ·obtain ⟨sl',h3,h4⟩:=aI h hs.slots
  exact ey (v:=.raw undef) hn hc hF h3 hs (.inr ⟨hw,rfl⟩) h4
theorem bm {rs:List (Nat × Oper)} (_hn:fi P sl done 0 l=none) (hr:readys done 0 l=rs) (hc:ef l done rs=true) (hne:rs≠[]) (h:cY P F l n done sl m k rs):bP P F l (n+1) done sl m k:=by
 unfold bP
 intro w0 S a w hs
 have hc:Region.ready .any l.toArray (aL l.length done)=rs.map (·.1):=by simpa [ef] using hc
 refine wpAnyH_all hc (fun e=>hne (by simpa using e)) fun i hi=>?_
 obtain ⟨x,hx,rfl⟩:=List.mem_map.1 hi
 obtain ⟨t,h1,h2⟩:=cz l 0 x (hr ▸ hx)
 unfold cY at h
 exact h x hx w0 S a w hs (by rw [h1];simpa using h2)
theorem bp (_hr:readys done 0 l=[]) (hc:ef l done []=true) (h:k sl m):bP P F l n done sl m k:=by
 unfold bP
 intro w0 S a w hs
 have hc:Region.ready .any l.toArray (aL l.length done)=[]:=by simpa [ef] using hc
 exact wpAnyH_done hc ⟨rfl,sl,m,h,hs⟩ n
theorem bU:cY P F l n done sl m k []:=by unfold cY;intro x hx;cases hx
theorem bq {rs:List (Nat × Oper)} {d:Option Tmp} {op:Op} {t:TypeId} {p:String} {e:Array Edge}
  (h:∀ K:List AV→List Blk→Prop,(∀ sl m,bP P F l n (i::done) sl m k→K sl m)→opM P sl m op fun v m'=>NH (m'[0]?=some (hpB F)) (dstK sl d v fun sl'=>K sl' m')) (hr:cY P F l n done sl m k rs):cY P F l n done sl m k ((i,⟨d,op,t,p,e,none⟩)::rs):=by
 unfold cY at *
 intro x hx
 rcases List.mem_cons.1 hx with rfl | hx
 ·intro w0 S a w hs ho
  unfold wpOp
  simp only [ho]
  rw [if_pos (show Region.wanted ⟨d,op,t,p,e,none⟩ (yielded l.toArray a.tmps)=true from rfl)]
  refine .inl (bZ hs.slots hs.mem hs.fr hs.fresh (o:=⟨d,op,t,p,e,none⟩) (h _ fun _ _ h=>h) fun v m' w' hl=>?_)
  obtain ⟨h0,hk⟩:=aK.1 hl.k
  obtain ⟨sl',h1,h2⟩:=aI hk hs.slots
  unfold bP at h1
  exact ⟨hl.mem.holds _ (List.mem_of_getElem? h0),h1 w0 S _ _ (hs.step h2 hl.mem hl.fr hl.fresh)⟩
 ·exact hr x hx
theorem bT {rs:List (Nat × Oper)} {d:Option Tmp} {op:Op} {t:TypeId} {p:String} {e:Array Edge} {g:Nat × Bool} (hF:m[0]?=some (hpB F))
  (h:∀ K:List AV→List Blk→Prop,(∀ sl m,bP P F l n (i::done) sl m k→K sl m)→guardK l.toArray sl g.1 g.2 (opM P sl m op fun v m'=>NH (m'[0]?=some (hpB F)) (dstK sl d v fun sl'=>K sl' m')) (dstK sl d (.raw undef) fun sl'=>K sl' m)) (hr:cY P F l n done sl m k rs):cY P F l n done sl m k ((i,⟨d,op,t,p,e,some g⟩)::rs):=by
 unfold cY at *
 intro x hx
 rcases List.mem_cons.1 hx with rfl | hx
 ·intro w0 S a w hs ho
  unfold wpOp
  simp only [ho]
  rcases ad (h _ fun _ _ h=>h) hs.slots (o:=⟨d,op,t,p,e,some g⟩) rfl with ⟨hw,h⟩ | ⟨hw,h⟩
  ·rw [if_pos hw]
   refine .inl (bZ hs.slots hs.mem hs.fr hs.fresh (o:=⟨d,op,t,p,e,some g⟩) h fun v m' w' hl=>?_)
   obtain ⟨h0,hk⟩:=aK.1 hl.k
   obtain ⟨sl',h1,h2⟩:=aI hk hs.slots
   unfold bP at h1
   exact ⟨hl.mem.holds _ (List.mem_of_getElem? h0),h1 w0 S _ _ (hs.step h2 hl.mem hl.fr hl.fresh)⟩
  ·rw [if_neg (by simp [hw])]
   obtain ⟨sl',h3,h4⟩:=aI h hs.slots
   unfold bP at h3
   exact ⟨hs.mem.holds _ (List.mem_of_getElem? hF),h3 w0 S _ _ (hs.step (v:=undef) h4 hs.mem hs.fr hs.fresh)⟩
 ·exact hr x hx
def l8:Nat→List Nat
 | 0=>[]
 | j+1=>j::l8 j
@[irreducible] def jB (P:Program) (F:Heap) (l:List Oper) (n j:Nat) (rest:List Oper) (sl:List AV) (m:List Blk) (k:List AV→List Blk→Prop):Prop :=
 l.drop j=rest→bP P F l n (l8 j) sl m k
theorem bR {Q:Post} {id:Nat} (hF:m[0]?=some (hpB F)) (h1:P.follows .mixedOrders=true) (n:Nat) (hn:l.length=n) (h:jB P F l n 0 l sl m (eF Q)):codeK P (.region id l.toArray true) sl m Q:=by
 unfold jB at h
 exact nB hF h1 n hn (h rfl)
theorem bE {j:Nat} {rest:List Oper} (h:bP P F l n (l8 j) sl m k):jB P F l n j rest sl m k:=by
 unfold jB
 intro _
 exact h
end
end
theorem jU {P:Program} {F:Heap} {l:List Oper} {n:Nat} {sl:List AV} {m:List Blk} {k:List AV→List Blk→Prop} {done:List Nat} (h:bP P F l n done sl m k):bP P F l n done sl m k:=h
theorem jV {P:Program} {F:Heap} {l:List Oper} {n:Nat} {sl:List AV} {m:List Blk} {k:List AV→List Blk→Prop} {done:List Nat} {rs:List (Nat × Oper)} (h:cY P F l n done sl m k rs):cY P F l n done sl m k rs:=h
theorem r5 {P:Program} {F:Heap} {l:List Oper} {n:Nat} {sl:List AV} {m:List Blk} {k:List AV→List Blk→Prop} {j:Nat} {rest:List Oper} (h:jB P F l n j rest sl m k):jB P F l n j rest sl m k:=h
end Go.Sx
namespace Go.Proofs.YtmehinfgdcmmjaaGreat
open Go.Sx
set_option maxRecDepth 20000
set_option linter.unusedSimpArgs false
set_option linter.unusedVariables false
set_option maxHeartbeats 4000000
theorem ge {p:Prop} {_:Decidable p} (h:p):AV.bool true = .bool (decide p):=by rw [decide_eq_true h]
theorem eE {p:Prop} {_:Decidable p} (h:¬ p):AV.bool false = .bool (decide p):=by rw [decide_eq_false h]
theorem fG {a b:List Po.S} (hl:a.length=b.length) (h:∀ j,j<a.length→a[j]?=b[j]?):a=b:=List.ext_getElem? fun j=>by
 by_cases hj:j<a.length
 ·exact h j hj
 ·rw [List.getElem?_eq_none (by omega),List.getElem?_eq_none (by omega)]
theorem ob (F:Heap) (v w:Value) (a b:List Po.S) (hv:aH F 5 (fun x vs=>vs=x.vs) v a) (hw:aH F 5 (fun x vs=>vs=x.vs) w b) (ha:a.length≤9223372036854775807) (hb:b.length≤9223372036854775807) :
  NCall Tryz.prog 12 [.hs v a.length,.hs w b.length] [hpB F] fun r m=>r = .bool (decide (a=b))∧m=[hpB F]:=by
 have hok:=hv.ok
 have hokw:=hw.ok
 refine aA Tryz.func12 rfl (by decide) ?_
 by_cases hl:a.length=b.length
 rotate_left
 ·repeat' first|(refine sxZ ?_;try clear hK K)|refine sxW ?_ ?_<;>intro _|(intro K hK _;conv=>whnf)
  exact ⟨eE (fun e=>hl (by rw [e])),rfl⟩
 repeat' first|(refine sxZ ?_;try clear hK K)|refine sxW ?_ ?_<;>intro _|(intro K hK _;conv=>whnf)
 refine aD (α:=Nat) (fun k=>k≤a.length∧∀ j,j<k→a[j]?=b[j]?) (fun k=>[.k,.k,.k,.k,.d,.set (.int .i64 k),.k,.k,.k,.k,.k,.d,.d,.d,.d,.d,.d,.d,.d,.d,.d,.d,.d,.d,.d,.d]) (fun _=>[]) (fun k=>a.length - k) 0 ⟨Nat.zero_le _,fun j hj=>absurd hj (Nat.not_lt_zero _)⟩ ?_ (MemFits.eq rfl) ?_
 ·exact aC
 (intro k ⟨hk,hgone⟩;intro K hK;(conv=>whnf);refine hK _ _ ?_;clear hK K)
 by_cases hlt:k<a.length
 ·have hlt2:k<b.length:=by omega
  obtain ⟨g0,g1,g2,g3,g4⟩:=aH.get5 (f0:=fun s:Po.S=>.int .i64 s.port) (f1:=fun s=>.int .i64 s.p0) (f2:=fun s=>.int .i64 s.p1) (f3:=fun s=>.int .i64 s.p2) (f4:=fun s=>.int .i64 s.p3) hv hlt
  obtain ⟨e0,e1,e2,e3,e4⟩:=aH.get5 (f0:=fun s:Po.S=>.int .i64 s.port) (f1:=fun s=>.int .i64 s.p0) (f2:=fun s=>.int .i64 s.p1) (f3:=fun s=>.int .i64 s.p2) (f4:=fun s=>.int .i64 s.p3) hw hlt2
  have hx:a[k]?=some a[k]:=List.getElem?_eq_getElem hlt
  have hy:b[k]?=some b[k]:=List.getElem?_eq_getElem hlt2
  generalize a[k]=x at *
  generalize b[k]=y at *
  by_cases hxy:x=y
  ·subst hxy
   obtain ⟨xp,xa,xb,xc,xd⟩:=x
   dsimp only at *
   (repeat' (first|(refine sxA ?_;(first|clear hK K|skip);(first|clear hA hB A B|skip))|((first|((with_reducible refine NIf.yes ?s ?_);case s=>(simp ;done))|((with_reducible refine NIf.no ?s ?_);case s=>(simp ;done)))<;>(conv=>whnf))|((with_reducible refine st_ordR1 ?s1 ?s2 ?s3 ?_);(case s1=>kernel_rfl);(case s2=>kernel_rfl);(case s3=>exact rfl);intro K hK;conv=>whnf)|((with_reducible refine st_ordR1g ?s1 ?s2 ?s3 ?_);(case s1=>kernel_rfl);(case s2=>kernel_rfl);(case s3=>exact rfl);intro K hK;conv=>whnf)|((with_reducible refine st_ordR2 ?s2 ?_);(case s2=>kernel_rfl);intro K hK;conv=>whnf)|((with_reducible refine st_ordR2g ?s2 ?s3 ?_);(case s2=>kernel_rfl);(case s3=>exact rfl);intro K hK;conv=>whnf)|((with_reducible refine st_ordR0 ?s2 ?_);(case s2=>kernel_rfl))|(with_reducible refine bE ?_)|((with_reducible refine jU ?_);(first|(refine bo rfl (by kernel_rfl) rfl ?_;intro K hK;conv=>whnf)|(refine bS rfl (by kernel_rfl) rfl ?_;intro K hK;conv=>whnf)|refine bp rfl (by kernel_rfl) ?_|refine bm rfl rfl (by kernel_rfl) (by intro h;cases h) ?_))|((with_reducible refine jV ?_);(first|(refine bq ?_ ?_;(intro K hK;conv=>whnf))|(refine bT rfl ?_ ?_;(intro K hK;conv=>whnf))|exact bU))|((with_reducible refine gX ?_);refine bR rfl (by kernel_rfl) _ rfl ?_)|(refine bQ ?_;intro K hK;conv=>whnf)|(refine bF ?_;intro A B hA hB;conv=>whnf)|((with_reducible first|refine NIf.dec (fun _=>?_) (fun _=>?_)|refine NIf.both (fun _=>?_) (fun _=>?_))<;>(conv=>whnf))|((intro _;skip)<;>(conv=>whnf))))
   refine aB (k+1) ⟨hlt,fun j hj=>?_⟩ (by omega) ?_ (MemFits.eq rfl)
   ·by_cases e:j=k
    ·subst e
     rw [hx,hy]
    ·exact hgone j (by omega)
   ·exact aC
  ·obtain ⟨xp,xa,xb,xc,xd⟩:=x
   obtain ⟨yp,ya,yb,yc,yd⟩:=y
   have hnb:(decide (xp=yp)&&(decide (xa=ya)&&(decide (xb=yb)&&(decide (xc=yc)&&(decide (xd=yd)&&true)))))=false:=by
    refine Bool.eq_false_iff.2 fun h=>hxy ?_
    simp only [Bool.and_eq_true,decide_eq_true_eq,and_true] at h
    obtain ⟨rfl,rfl,rfl,rfl,rfl⟩:=h
    rfl
   dsimp only at *
   (repeat' (first|(refine sxA ?_;(first|clear hK K|skip);(first|clear hA hB A B|skip))|((first|((with_reducible refine NIf.yes ?s ?_);case s=>(rw [hnb];rfl))|((with_reducible refine NIf.no ?s ?_);case s=>(rw [hnb];rfl)))<;>(conv=>whnf))|((with_reducible refine st_ordR1 ?s1 ?s2 ?s3 ?_);(case s1=>kernel_rfl);(case s2=>kernel_rfl);(case s3=>exact rfl);intro K hK;conv=>whnf)|((with_reducible refine st_ordR1g ?s1 ?s2 ?s3 ?_);(case s1=>kernel_rfl);(case s2=>kernel_rfl);(case s3=>exact rfl);intro K hK;conv=>whnf)|((with_reducible refine st_ordR2 ?s2 ?_);(case s2=>kernel_rfl);intro K hK;conv=>whnf)|((with_reducible refine st_ordR2g ?s2 ?s3 ?_);(case s2=>kernel_rfl);(case s3=>exact rfl);intro K hK;conv=>whnf)|((with_reducible refine st_ordR0 ?s2 ?_);(case s2=>kernel_rfl))|(with_reducible refine bE ?_)|((with_reducible refine jU ?_);(first|(refine bo rfl (by kernel_rfl) rfl ?_;intro K hK;conv=>whnf)|(refine bS rfl (by kernel_rfl) rfl ?_;intro K hK;conv=>whnf)|refine bp rfl (by kernel_rfl) ?_|refine bm rfl rfl (by kernel_rfl) (by intro h;cases h) ?_))|((with_reducible refine jV ?_);(first|(refine bq ?_ ?_;(intro K hK;conv=>whnf))|(refine bT rfl ?_ ?_;(intro K hK;conv=>whnf))|exact bU))|((with_reducible refine gX ?_);refine bR rfl (by kernel_rfl) _ rfl ?_)|(refine bQ ?_;intro K hK;conv=>whnf)|(refine bF ?_;intro A B hA hB;conv=>whnf)|((with_reducible first|refine NIf.dec (fun _=>?_) (fun _=>?_)|refine NIf.both (fun _=>?_) (fun _=>?_))<;>(conv=>whnf))|((intro _;skip)<;>(conv=>whnf))))
   exact ⟨eE (fun e=>hxy (by subst e;rw [hx] at hy;injection hy)),rfl⟩
 ·repeat' first|(refine sxZ ?_;try clear hK K)|refine sxW ?_ ?_<;>intro _|(intro K hK _;conv=>whnf)
  exact ⟨ge (fG hl fun j hj=>hgone j (by omega)),rfl⟩
theorem nu (x y:Po.S):NCall Tryz.prog 152 [.agg x.av,.agg y.av] [hpB noHeap] fun r _=>r = .int .i64 (Po.cmpS x y):=by
 refine NCall.fits (K:=fun r m=>r = .int .i64 (Po.cmpS x y)) ?_ fun r m' h=>⟨r,_,rfl,MemFits.eq rfl,h⟩
 have c0:=eO x.port y.port
 have k1:∀ b1 b2:Nat,NCall Tryz.prog 184 [.raw (.slice (some ((⟨b1,0,none⟩:Addr).add 1)) 4 4),.raw (.slice (some ((⟨b2,0,none⟩:Addr).add 1)) 4 4)] [hpB noHeap,⟨⟨b1,0,none⟩,x.av,.var 48⟩,⟨⟨b2,0,none⟩,y.av,.var 48⟩] fun r m=>r = .int .i64 (Po.cmpL [x.p0,x.p1,x.p2,x.p3] [y.p0,y.p1,y.p2,y.p3])∧m=[hpB noHeap,⟨⟨b1,0,none⟩,x.av,.var 48⟩,⟨⟨b2,0,none⟩,y.av,.var 48⟩]:=fun b1 b2 =>
  NCall.keep (pY (addF (addF noHeap ⟨b1,0,none⟩ (denL x.av)) ⟨b2,0,none⟩ (denL y.av)) (.slice (some ((⟨b1,0,none⟩:Addr).add 1)) 4 4) (.slice (some ((⟨b2,0,none⟩:Addr).add 1)) 4 4) [x.p0,x.p1,x.p2,x.p3] [y.p0,y.p1,y.p2,y.p3]
   (aH.mono addF.old (fun _ _ h=>h) (Po.part_row addF.new)) (Po.part_row addF.new) rfl (by simp)) rfl (MemFits.freezeVar.trans MemFits.freezeVar) rfl fun r mL' h=>⟨r,rfl,h.1,rfl⟩
 rw [Po.cmpS_L]
 generalize Po.cmpL [x.p0,x.p1,x.p2,x.p3] [y.p0,y.p1,y.p2,y.p3]=c2 at *
 generalize Po.cmpI x.port y.port=c1 at *
 have co:∀ b:Nat,NCall Tryz.prog 182 [.sl 0 (.slice (some ⟨b,0,none⟩) 2 2) 2] [⟨⟨b,0,none⟩,[.int .i64 c1,.int .i64 c2],.row (.slice (some ⟨b,0,none⟩) 2 2) 3 1 2⟩] fun r m=>r = .int .i64 (if c1≠0 then c1 else c2)∧m=[⟨⟨b,0,none⟩,[.int .i64 c1,.int .i64 c2],.row (.slice (some ⟨b,0,none⟩) 2 2) 3 1 2⟩]:=fun b=>oq _ _ c1 c2
 refine aA Tryz.func152 rfl (by decide) ?_
 obtain ⟨a0,a,b,c,d⟩:=x
 obtain ⟨a0',a',b',c',d'⟩:=y
 unfold Po.S.av at *
 simp only at *
 repeat' first|(intro K hK;(with_reducible refine gC ?_);first|refine cP c0 ?_|refine cS [0,1,2] (k1 _ _) ?_|refine cS [3] (co _) ?_)|(refine aV [] ?_;try clear hK K)|refine sxW ?_ ?_<;>intro _|refine aW ?_ ?_|(intro K hK _;conv=>whnf)
 all_goals rfl
theorem nr (x y:Po.S) (W:World):Calls Tryz.prog 152 #[.agg x.vs.toArray,.agg y.vs.toArray] W fun e w'=>e = .returned (.int .i64 (Po.cmpS x y))∧∃ (q:Nat) (os:Array Obj),w'=Go.Sort.grow (W.drewN q) os:=by
 have h:=(aM.1 (nu x y)).2 W (gl W)
 have h:=lI h fun e w' ⟨r,m',_,he,_⟩=>⟨_,he⟩
 refine h.mono fun e w' ⟨⟨r,m',hr,he,_,hf,_⟩,hd⟩=>?_
 subst hr
 refine ⟨he,Fr.grow ⟨hf.os,hf.tape,hf.output,hf.size,fun k hk _=>hf.block k hk fun ⟨k',h1,h2,_⟩=>?_⟩ hd⟩
 rw [List.mem_singleton] at h1
 subst h1
 cases h2
theorem qG (v:Value) (t:TypeId) (L:List Po.S) (hl:L.length<4611686018427387904) :
  NCall Tryz.prog 151 [.sl 0 v L.length,.fn 152 [] []] [⟨addrOf v,Po.savs L,.row v t 5 L.length⟩] fun r m=>r = .tup []∧∃ L':List Po.S,L'.Perm L∧L'.Pairwise (fun x y=>¬ Po.ahead y x)∧m=[⟨addrOf v,Po.savs L',.row v t 5 L.length⟩]:=by
 rw [aM]
 refine ⟨Go.Sx.enters_of Tryz.func151 rfl (by decide),fun w hm=>?_⟩
 obtain ⟨⟨h1,h2⟩,h3⟩:=hm.holds _ (List.mem_singleton.2 rfl)
 rcases h2 with ⟨rfl,hn⟩ | ⟨g,cap,cur,rfl,_,hg,hle,hcap,hsz,htk⟩
 ·have e:L=[]:=List.length_eq_zero_iff.1 hn
  subst e
  refine (AnyF.slices_SortFunc_none Tryz.sortSent none 0 _ w).mono fun e w' ⟨he,hw⟩=>?_
  subst hw
  exact ⟨.tup [],_,⟨rfl,[],List.Perm.refl _,List.Pairwise.nil,rfl⟩,he,hm,Fr.refl _ _,Fresh.self _ _⟩
 ·rw [Po.savs_den] at htk
  have hlt:g<w.heap.size:=(Array.getElem?_eq_some_iff.1 hg).1
  have hH:Go.Sort.HoldsK Po.S.vs 5 w g 0 L.toArray:=by
   unfold Go.Sort.HoldsK
   rw [Po.flatK_eq]
   exact dv hg (by rw [Po.flat_len];exact htk)
  have eg:∀ args w,(callFunc 152 args).run Tryz.prog w = .ok (.enter 152 args) w:=Go.Sx.enters_of Tryz.func152 rfl (by decide)
  have hcmp:Go.Proofs.CmpLays Tryz.prog 152 #[] Po.S.vs 5 Po.cmpS g 0 L.toArray.size w:=fun m os dk _ x y=>by
   simpa using nr x y _
  refine (AnyQ.slices_SortFunc Tryz.sortSent 5 (fun w=>Go.Sx.run_isAgg (b:=true) (by kernel_rfl) w) (fun w=>Go.Sx.run_sizeOf (s:=5) (by kernel_rfl) w) Po.S.vs (fun _=>rfl) (fun x v hv=>by simp [Po.S.vs] at hv;rcases hv with rfl | rfl | rfl | rfl | rfl<;>rfl) Po.cmpS Po.swoS 152 #[] g 0 cap L.toArray w eg hcmp hH hlt (by simpa using hl)).mono fun e w' ⟨he,d',n,os,hp,hs,hw⟩=>?_
  have hperm:d'.toList.Perm L:=by
   have h4:=hp.2.2
   have e1:d'.extract 0 L.toArray.size=d':=by
    have:=hp.1
    rw [← this,Array.extract_size]
   rw [e1] at h4
   simpa using h4
  have hsort:d'.toList.Pairwise (fun x y=>¬ Po.ahead y x):=by
   rw [List.pairwise_iff_getElem]
   intro i j hi hj hij
   have hsz2:=hp.1
   have h4:=hs i j (Nat.zero_le _) hij (by rw [← hsz2];simpa using hj)
   rw [Po.lt_ahead,decide_eq_false_iff_not] at h4
   rw [getElem!_pos _ j (by simpa using hj),getElem!_pos _ i (by simpa using hi)] at h4
   simpa using h4
  have hlen:d'.toList.length=L.length:=hperm.length_eq
  have hw':w'=Go.Sort.grow (Go.Sort.putRow id (Go.Sort.ahead w n) g 0 (d'.toList.flatMap Po.S.vs).toArray) os:=by
   rw [hw]
   unfold Go.Proofs.sortWorldK Go.Sort.putRowK
   rw [show d'=d'.toList.toArray from rfl,Po.flatK_eq]
  have hgr:=dw (w:=w) (g:=g) (n:=n) (os:=os) (d'.toList.flatMap Po.S.vs).toArray
  have hhp:=fL (n:=n) (os:=os) (d'.toList.flatMap Po.S.vs).toArray hg
  rw [← hw'] at hgr hhp
  have hfl:(d'.toList.flatMap Po.S.vs).length=L.length*5:=by rw [Po.flat_len,hlen]
  have hown:w'.ownsRow 0 t 5 (.slice (some ⟨g,0,none⟩) L.length cap) L.length (denL (Po.savs d'.toList)):=by
   rw [Po.savs_den]
   exact ⟨by rw [hfl],.inr ⟨g,cap,_,rfl,Nat.zero_le _,hhp,hle,hcap,by simp [Go.Sort.putCells,hsz],by rw [← hfl];exact dz cur _ (by rw [hfl,hsz];exact Nat.mul_le_mul_right 5 hle)⟩⟩
  have hfr:=Fr.grown hgr
  refine ⟨.tup [],_,⟨rfl,d'.toList,hperm,hsort,rfl⟩,he,?_,?_,?_⟩
  ·exact hm.set (i:=0) (k:=⟨addrOf (.slice (some ⟨g,0,none⟩) L.length cap),Po.savs d'.toList,.row (.slice (some ⟨g,0,none⟩) L.length cap) t 5 L.length⟩) hfr.size rfl rfl
    (fun b hb hlt=>hfr.block b hlt fun e=>hb e) ⟨hown,rfl⟩ rfl (.inr (.inl rfl))
  ·exact ⟨hfr.os,hfr.tape,hfr.output,hfr.size,fun k hk hS=>hfr.block k hk fun e=>hS ⟨_,List.mem_singleton.2 rfl,rfl,e⟩⟩
  ·exact Fresh.set (i:=0) (Fresh.self _ _) (k:=⟨addrOf (.slice (some ⟨g,0,none⟩) L.length cap),Po.savs d'.toList,.row (.slice (some ⟨g,0,none⟩) L.length cap) t 5 L.length⟩) rfl fun b hb=>.inl ⟨_,List.mem_singleton.2 rfl,rfl,hb⟩
theorem iC (F:Heap) (v:Value) (l:List Po.S) (hv:Po.SRow F v l) (hl:l.length≤4611686018427387904) (hr:Po.Rising l) :
  NCall Tryz.prog 153 [.hs v l.length] [hpB F] fun r m=>r = .hs v l.length∧m=[hpB F]:=by
 have hok:=hv.ok
 refine aA Tryz.func153 rfl (by decide) ?_
 by_cases h2:l.length<2
 ·repeat' first|(refine sxZ ?_;try clear hK K)|refine sxW ?_ ?_<;>intro _|(intro K hK _;conv=>whnf)
  all_goals first | (exfalso;omega) | exact ⟨rfl,rfl⟩
 repeat' first|(refine sxZ ?_;try clear hK K)|refine sxW ?_ ?_<;>intro _|(intro K hK _;conv=>whnf)
 all_goals first | (exfalso;omega) | skip
 refine aD (α:=Nat) (fun k=>1≤k∧k≤l.length) (fun k=>[.k,.k,.d,.set (.int .i64 k),.d,.d,.k,.k,.k,.k,.d,.d,.d,.d,.d,.d,.d,.d,.d,.d,.d,.d,.d,.d,.d,.d,.d,.d,.d,.d,.d,.d,.d,.d,.d,.d,.d,.d,.d,.d,.d,.d,.d,.d,.d,.d,.d,.d,.d,.d,.d,.d,.d,.d,.d,.d,.d,.d,.d,.d,.k]) (fun _=>[]) (fun k=>l.length - k) 1 ⟨Nat.le_refl _,by omega⟩ ?_ (MemFits.eq rfl) ?_
 ·exact aC
 (intro k ⟨hk1,hk⟩;intro K hK;(conv=>whnf);refine hK _ _ ?_;clear hK K)
 by_cases hlt:k<l.length
 ·have hlt2:k - 1<l.length:=by omega
  obtain ⟨g0,g1,g2,g3,g4⟩:=aH.get5 (f0:=fun s:Po.S=>.int .i64 s.port) (f1:=fun s=>.int .i64 s.p0) (f2:=fun s=>.int .i64 s.p1) (f3:=fun s=>.int .i64 s.p2) (f4:=fun s=>.int .i64 s.p3) hv hlt
  obtain ⟨e0,e1,e2,e3,e4⟩:=aH.get5 (f0:=fun s:Po.S=>.int .i64 s.port) (f1:=fun s=>.int .i64 s.p0) (f2:=fun s=>.int .i64 s.p1) (f3:=fun s=>.int .i64 s.p2) (f4:=fun s=>.int .i64 s.p3) hv hlt2
  have hah:Po.ahead l[k - 1] l[k]:=List.pairwise_iff_getElem.1 hr (k - 1) k hlt2 hlt (by omega)
  have hne:l[k]≠l[k - 1]:=fun e=>by rw [e] at hah;exact Po.ahead_irrefl _ hah
  clear hah hr
  generalize l[k]=x at *
  generalize l[k - 1]=y at *
  have en:((k:Int) - 1).toNat=k - 1:=by omega
  obtain ⟨xp,xa,xb,xc,xd⟩:=x
  obtain ⟨yp,ya,yb,yc,yd⟩:=y
  have hnb:(decide (xp=yp)&&(decide (xa=ya)&&(decide (xb=yb)&&(decide (xc=yc)&&(decide (xd=yd)&&true)))))=false:=by
   refine Bool.eq_false_iff.2 fun h=>hne ?_
   simp only [Bool.and_eq_true,decide_eq_true_eq,and_true] at h
   obtain ⟨rfl,rfl,rfl,rfl,rfl⟩:=h
   rfl
  dsimp only at *
  rw [← en] at e0 e1 e2 e3 e4
  (repeat' (first|(refine sxA ?_;(first|clear hK K|skip);(first|clear hA hB A B|skip))|((first|((with_reducible refine NIf.yes ?s ?_);case s=>(rw [hnb];rfl))|((with_reducible refine NIf.no ?s ?_);case s=>(rw [hnb];rfl)))<;>(conv=>whnf))|((with_reducible refine st_ordR1 ?s1 ?s2 ?s3 ?_);(case s1=>kernel_rfl);(case s2=>kernel_rfl);(case s3=>exact rfl);intro K hK;conv=>whnf)|((with_reducible refine st_ordR1g ?s1 ?s2 ?s3 ?_);(case s1=>kernel_rfl);(case s2=>kernel_rfl);(case s3=>exact rfl);intro K hK;conv=>whnf)|((with_reducible refine st_ordR2 ?s2 ?_);(case s2=>kernel_rfl);intro K hK;conv=>whnf)|((with_reducible refine st_ordR2g ?s2 ?s3 ?_);(case s2=>kernel_rfl);(case s3=>exact rfl);intro K hK;conv=>whnf)|((with_reducible refine st_ordR0 ?s2 ?_);(case s2=>kernel_rfl))|(with_reducible refine bE ?_)|((with_reducible refine jU ?_);(first|(refine bo rfl (by kernel_rfl) rfl ?_;intro K hK;conv=>whnf)|(refine bS rfl (by kernel_rfl) rfl ?_;intro K hK;conv=>whnf)|refine bp rfl (by kernel_rfl) ?_|refine bm rfl rfl (by kernel_rfl) (by intro h;cases h) ?_))|((with_reducible refine jV ?_);(first|(refine bq ?_ ?_;(intro K hK;conv=>whnf))|(refine bT rfl ?_ ?_;(intro K hK;conv=>whnf))|exact bU))|((with_reducible refine gX ?_);refine bR rfl (by kernel_rfl) _ rfl ?_)|(refine bQ ?_;intro K hK;conv=>whnf)|(refine bF ?_;intro A B hA hB;conv=>whnf)|((with_reducible first|refine NIf.dec (fun _=>?_) (fun _=>?_)|refine NIf.both (fun _=>?_) (fun _=>?_))<;>(conv=>whnf))|((intro _;skip)<;>(conv=>whnf))))
  refine aB (k+1) ⟨by omega,hlt⟩ (by omega) ?_ (MemFits.eq rfl)
  exact aC
 ·repeat' first|(refine sxZ ?_;try clear hK K)|refine sxW ?_ ?_<;>intro _|(intro K hK _;conv=>whnf)
  all_goals first | (exfalso;omega) | exact ⟨rfl,rfl⟩
theorem pN (F:Heap) (v w:Value) (a b:List Po.S) (hv:Po.SRow F v a) (hw:Po.SRow F w b) (ha:a.length≤9223372036854775807) (hb:b.length≤9223372036854775807) :
  NCall Tryz.prog 156 [.hs v a.length,.hs w b.length] [hpB F] fun r m=>r = .bool (decide (a=b))∧m=[hpB F]:=by
 have hok:=hv.ok
 have hokw:=hw.ok
 refine aA Tryz.func156 rfl (by decide) ?_
 by_cases hl:a.length=b.length
 rotate_left
 ·repeat' first|(refine sxZ ?_;try clear hK K)|refine sxW ?_ ?_<;>intro _|(intro K hK _;conv=>whnf)
  exact ⟨eE (fun e=>hl (by rw [e])),rfl⟩
 repeat' first|(refine sxZ ?_;try clear hK K)|refine sxW ?_ ?_<;>intro _|(intro K hK _;conv=>whnf)
 refine aD (α:=Nat) (fun k=>k≤a.length∧∀ j,j<k→a[j]?=b[j]?) (fun k=>[.k,.k,.k,.k,.d,.d,.k,.k,.k,.k,.k,.k,.k,.set (.int .i64 k),.d,.d,.d,.d,.d,.d,.d,.d,.d,.d,.d,.d]) (fun _=>[]) (fun k=>a.length - k) 0 ⟨Nat.zero_le _,fun j hj=>absurd hj (Nat.not_lt_zero _)⟩ ?_ (MemFits.eq rfl) ?_
 ·exact aC
 (intro k ⟨hk,hgone⟩;intro K hK;(conv=>whnf);refine hK _ _ ?_;clear hK K)
 by_cases hlt:k<a.length
 ·have hlt2:k<b.length:=by omega
  obtain ⟨g0,g1,g2,g3,g4⟩:=aH.get5 (f0:=fun s:Po.S=>.int .i64 s.port) (f1:=fun s=>.int .i64 s.p0) (f2:=fun s=>.int .i64 s.p1) (f3:=fun s=>.int .i64 s.p2) (f4:=fun s=>.int .i64 s.p3) hv hlt
  obtain ⟨e0,e1,e2,e3,e4⟩:=aH.get5 (f0:=fun s:Po.S=>.int .i64 s.port) (f1:=fun s=>.int .i64 s.p0) (f2:=fun s=>.int .i64 s.p1) (f3:=fun s=>.int .i64 s.p2) (f4:=fun s=>.int .i64 s.p3) hw hlt2
  have hx:a[k]?=some a[k]:=List.getElem?_eq_getElem hlt
  have hy:b[k]?=some b[k]:=List.getElem?_eq_getElem hlt2
  generalize a[k]=x at *
  generalize b[k]=y at *
  by_cases hxy:x=y
  ·subst hxy
   obtain ⟨xp,xa,xb,xc,xd⟩:=x
   dsimp only at *
   (repeat' (first|(refine sxA ?_;(first|clear hK K|skip);(first|clear hA hB A B|skip))|((first|((with_reducible refine NIf.yes ?s ?_);case s=>(simp ;done))|((with_reducible refine NIf.no ?s ?_);case s=>(simp ;done)))<;>(conv=>whnf))|((with_reducible refine st_ordR1 ?s1 ?s2 ?s3 ?_);(case s1=>kernel_rfl);(case s2=>kernel_rfl);(case s3=>exact rfl);intro K hK;conv=>whnf)|((with_reducible refine st_ordR1g ?s1 ?s2 ?s3 ?_);(case s1=>kernel_rfl);(case s2=>kernel_rfl);(case s3=>exact rfl);intro K hK;conv=>whnf)|((with_reducible refine st_ordR2 ?s2 ?_);(case s2=>kernel_rfl);intro K hK;conv=>whnf)|((with_reducible refine st_ordR2g ?s2 ?s3 ?_);(case s2=>kernel_rfl);(case s3=>exact rfl);intro K hK;conv=>whnf)|((with_reducible refine st_ordR0 ?s2 ?_);(case s2=>kernel_rfl))|(with_reducible refine bE ?_)|((with_reducible refine jU ?_);(first|(refine bo rfl (by kernel_rfl) rfl ?_;intro K hK;conv=>whnf)|(refine bS rfl (by kernel_rfl) rfl ?_;intro K hK;conv=>whnf)|refine bp rfl (by kernel_rfl) ?_|refine bm rfl rfl (by kernel_rfl) (by intro h;cases h) ?_))|((with_reducible refine jV ?_);(first|(refine bq ?_ ?_;(intro K hK;conv=>whnf))|(refine bT rfl ?_ ?_;(intro K hK;conv=>whnf))|exact bU))|((with_reducible refine gX ?_);refine bR rfl (by kernel_rfl) _ rfl ?_)|(refine bQ ?_;intro K hK;conv=>whnf)|(refine bF ?_;intro A B hA hB;conv=>whnf)|((with_reducible first|refine NIf.dec (fun _=>?_) (fun _=>?_)|refine NIf.both (fun _=>?_) (fun _=>?_))<;>(conv=>whnf))|((intro _;skip)<;>(conv=>whnf))))
   refine aB (k+1) ⟨hlt,fun j hj=>?_⟩ (by omega) ?_ (MemFits.eq rfl)
   ·by_cases e:j=k
    ·subst e
     rw [hx,hy]
    ·exact hgone j (by omega)
   ·exact aC
  ·obtain ⟨xp,xa,xb,xc,xd⟩:=x
   obtain ⟨yp,ya,yb,yc,yd⟩:=y
   have hnb:(decide (xp=yp)&&(decide (xa=ya)&&(decide (xb=yb)&&(decide (xc=yc)&&(decide (xd=yd)&&true)))))=false:=by
    refine Bool.eq_false_iff.2 fun h=>hxy ?_
    simp only [Bool.and_eq_true,decide_eq_true_eq,and_true] at h
    obtain ⟨rfl,rfl,rfl,rfl,rfl⟩:=h
    rfl
   dsimp only at *
   (repeat' (first|(refine sxA ?_;(first|clear hK K|skip);(first|clear hA hB A B|skip))|((first|((with_reducible refine NIf.yes ?s ?_);case s=>(rw [hnb];rfl))|((with_reducible refine NIf.no ?s ?_);case s=>(rw [hnb];rfl)))<;>(conv=>whnf))|((with_reducible refine st_ordR1 ?s1 ?s2 ?s3 ?_);(case s1=>kernel_rfl);(case s2=>kernel_rfl);(case s3=>exact rfl);intro K hK;conv=>whnf)|((with_reducible refine st_ordR1g ?s1 ?s2 ?s3 ?_);(case s1=>kernel_rfl);(case s2=>kernel_rfl);(case s3=>exact rfl);intro K hK;conv=>whnf)|((with_reducible refine st_ordR2 ?s2 ?_);(case s2=>kernel_rfl);intro K hK;conv=>whnf)|((with_reducible refine st_ordR2g ?s2 ?s3 ?_);(case s2=>kernel_rfl);(case s3=>exact rfl);intro K hK;conv=>whnf)|((with_reducible refine st_ordR0 ?s2 ?_);(case s2=>kernel_rfl))|(with_reducible refine bE ?_)|((with_reducible refine jU ?_);(first|(refine bo rfl (by kernel_rfl) rfl ?_;intro K hK;conv=>whnf)|(refine bS rfl (by kernel_rfl) rfl ?_;intro K hK;conv=>whnf)|refine bp rfl (by kernel_rfl) ?_|refine bm rfl rfl (by kernel_rfl) (by intro h;cases h) ?_))|((with_reducible refine jV ?_);(first|(refine bq ?_ ?_;(intro K hK;conv=>whnf))|(refine bT rfl ?_ ?_;(intro K hK;conv=>whnf))|exact bU))|((with_reducible refine gX ?_);refine bR rfl (by kernel_rfl) _ rfl ?_)|(refine bQ ?_;intro K hK;conv=>whnf)|(refine bF ?_;intro A B hA hB;conv=>whnf)|((with_reducible first|refine NIf.dec (fun _=>?_) (fun _=>?_)|refine NIf.both (fun _=>?_) (fun _=>?_))<;>(conv=>whnf))|((intro _;skip)<;>(conv=>whnf))))
   exact ⟨eE (fun e=>hxy (by subst e;rw [hx] at hy;injection hy)),rfl⟩
 ·repeat' first|(refine sxZ ?_;try clear hK K)|refine sxW ?_ ?_<;>intro _|(intro K hK _;conv=>whnf)
  exact ⟨ge (fG hl fun j hj=>hgone j (by omega)),rfl⟩
theorem de {f:FuncId} {args:List AV} {F:Heap} {t:TypeId} {m:List Blk} {l:List Po.S} (h:NCall Tryz.prog f args m fun r m'=>∃ v,r.den=aw v∧MemFits m' [hpB F,⟨addrOf v,Po.savs l,.row v t 5 l.length⟩]) :
  NCall Tryz.prog f args m fun r m'=>∃ F' v,F.le F'∧Po.SRow F' v l∧r = .hs v l.length∧m'=[hpB F']:=by
 refine Go.Sx.NCall.know h fun r m' ⟨v,hr,hm⟩ ⟨w,hw⟩=>?_
 have hok:=((hm w hw).1.row (List.mem_cons_of_mem _ (List.mem_cons_self ..))).1
 have hrow:=aJ (F:=F) (sz:=5) (enc:=Po.S.vs) hok (Po.savs_den _) (fun x _=>rfl)
 exact ⟨.hs v l.length,_,hr.symm,hm.trans (MemFits.freeze (m:=[])),_,v,addF.old,hrow,rfl,rfl⟩
theorem lM (F:Heap) (b c:Nat) (t:TypeId) (N R:List Po.S) (hn:N.length≤1000000) (hnd:N.Nodup) (hR:Po.Rising R) (hmem:∀ t,t∈N↔t∈R) :
  NCall Tryz.prog 178 [.fn 196 [] [.ptr 2 ⟨c,0,none⟩ 0],.fn 180 [] []] [hpB F,aa b (Po.sM N),⟨⟨c,0,none⟩,[.raw (.map (some b))],.var t⟩] fun r m=>∃ (G:Heap) (u:Value),F.le G∧r = .sl 3 u R.length∧m=[hpB G,hpB noHeap,hpB noHeap,⟨addrOf u,Po.savs R,.row u 48 5 R.length⟩]:=by
 have hc:(addF (ji F b (aS (Po.sM N))) ⟨c,0,none⟩ (denL [AV.raw (.map (some b))])).c ⟨c,0,none⟩ (.map (some b)):=.inr ⟨0,by simp [Addr.add],by simp [denL,AV.den]⟩
 have hb:(addF (ji F b (aS (Po.sM N))) ⟨c,0,none⟩ (denL [AV.raw (.map (some b))])).o b (aS (Po.sM N)):=.inr ⟨rfl,rfl⟩
 have h:=gT _ b N R hn hnd hR hmem ⟨c,0,none⟩ hc hb
 have h:=NCall.pre (args:=[.fn 196 [] [.ptr 2 ⟨c,0,none⟩ 0],.fn 180 [] []]) (m:=[hpB F,aa b (Po.sM N),⟨⟨c,0,none⟩,[.raw (.map (some b))],.var t⟩]) h rfl (MemFits.freezeObj.trans MemFits.freezeVar)
 have hle:F.le (addF (ji F b (aS (Po.sM N))) ⟨c,0,none⟩ (denL [AV.raw (.map (some b))])):=ji.old.trans addF.old
 generalize addF (ji F b (aS (Po.sM N))) ⟨c,0,none⟩ (denL [AV.raw (.map (some b))])=G at *
 refine NCall.fits h fun r m ⟨u,h1,h2⟩=>⟨.sl 3 u R.length,[hpB G,hpB noHeap,hpB noHeap,⟨addrOf u,Po.savs R,.row u 48 5 R.length⟩],?_,?_,G,u,hle,rfl,rfl⟩
 ·rw [h1];rfl
 ·rw [h2]
  exact ((MemFits.noHeap _).trans (MemFits.noHeap _)).trans (MemFits.pick [2,0,1,3] (by decide) rfl)
theorem qy (F:Heap) (x:Po.T) (pu u:Value) (sw:Int) (s:Po.S) (hs:Po.tot x≤4611686018427387904) (hf:Po.fits x=true) (hl:(Po.runs sw x s).length≤1000000) (hx:Po.At F x pu u) :
  NCall Tryz.prog 149 [.agg (Po.cs x pu u),.int .i64 sw,.int .i64 s.port,.agg [.int .i64 s.p0,.int .i64 s.p1,.int .i64 s.p2,.int .i64 s.p3]] [hpB F] fun r m=>∃ F' v,F.le F'∧Po.SRow F' v (Po.runs sw x s)∧r = .hs v (Po.runs sw x s).length∧m=[hpB F']:=by
 refine de (t:=48) ?_
 have hok:=hx.l.ok
 have hpok:=hx.p.ok
 have cr:=fun b=>mQ _ F x pu u sw (Nat.le_refl _) hs hf hx s b [] List.nodup_nil
 simp only [Po.doneR] at cr
 have hR:=Po.runs_rising sw s _ x (Nat.le_refl _)
 have ck:=fun b=>o7 F b
 generalize Po.runs sw x s=R at *
 have hlen:∀ N:List Po.S,N.Nodup→(∀ t,t∈N↔t∈([]:List Po.S)∨t∈R)→N.length≤1000000∧∀ t,t∈N↔t∈R:=fun N hn hm=>by
  have hm:∀ t,t∈N↔t∈R:=fun t=>(hm t).trans (by simp)
  refine ⟨Nat.le_trans ?_ hl,hm⟩
  have hp:N.Perm R:=by
   rw [List.perm_iff_count]
   intro t
   have hRn:R.Nodup:=List.Pairwise.imp (fun {a b} (h:Po.ahead a b) (e:a=b)=>Po.ahead_irrefl b (by rw [e] at h;exact h)) hR
   rw [hn.count,hRn.count]
   simp only [hm]
  rw [hp.length_eq]
  exact Nat.le_refl _
 have hsf:=fun b c N (hn:N.length≤1000000) hnd hm=>lM F b c 232 N R hn hnd hR hm
 clear hl hR hx hf hs
 obtain ⟨k,⟨pk,pf,pv,pl⟩,f0,v0,l⟩:=x
 obtain ⟨a0,q0,q1,q2,q3⟩:=s
 simp only [Po.cs,Po.T.k,Po.T.p,Po.T.f,Po.T.v,Po.T.l,Pd.T.k,Pd.T.f,Pd.T.v,Pd.T.l,Po.S.av] at *
 refine aA Tryz.func149 rfl (by decide) ?_
 repeat' first|((try intro K hK);(with_reducible refine gC ?_);first|(refine cN [0,3] (cr _) ?_;rintro _ _ ⟨N,hnd,hmem,rfl,rfl⟩;refine cR ?_)|(refine cN [0] (ck _) ?_;rintro _ _ ⟨c,rfl,rfl⟩;refine ⟨rfl,.fn 196 [] [.ptr 4 ⟨c,0,none⟩ 0],rfl,?_⟩;conv=>whnf)|(refine cN [0,3,4] (hsf _ _ N (hlen N hnd hmem).1 hnd (hlen N hnd hmem).2) ?_;rintro _ _ ⟨G,u9,hle,rfl,rfl⟩;refine ⟨rfl,.sl 5 u9 R.length,rfl,?_⟩;conv=>whnf))|((try intro K hK);((with_reducible refine eH ?_);refine NMap.make fun b1=>?_;conv=>whnf))|(refine sxZ ?_;try clear hK K)|refine sxW ?_ ?_<;>intro _|(intro K hK _;conv=>whnf)|(intro _;conv=>whnf)
 all_goals exact ⟨u9,rfl,(MemFits.pick [0,5] (by decide) rfl).trans (MemFits.less hle _)⟩
end Go.Proofs.YtmehinfgdcmmjaaGreat
