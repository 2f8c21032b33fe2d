/- A part of the proof. -/
import Derived.Test.YtmehinfgdcmmjaaGreatDoorTSxC
import Derived.OrdersHeld
namespace Go.Proofs.YtmehinfgdcmmjaaGreatDoor
open Go.Sx
set_option maxRecDepth 20000
set_option linter.unusedVariables false
namespace Pd
inductive T where
 | mk (k f v:Int) (l:List T)
def T.k:T→Int | .mk k _ _ _=>k
def T.f:T→Int | .mk _ f _ _=>f
def T.v:T→Int | .mk _ _ v _=>v
def T.l:T→List T | .mk _ _ _ l=>l
mutual
def size:T→Nat
 | .mk _ _ _ l=>1+sizeL l
def sizeL:List T→Nat
 | []=>0
 | p::l=>size p+sizeL l
end
mutual
def deep:T→Nat
 | .mk _ _ _ l=>1+deepL l
def deepL:List T→Nat
 | []=>0
 | p::l=>max (deep p) (deepL l)
end
mutual
def same:T→T→Bool
 | .mk k f v l,.mk k' f' v' l'=>decide (k=k')&&decide (f=f')&&decide (v=v')&&sameL l l'
def sameL:List T→List T→Bool
 | [],[]=>true
 | p::l,q::l'=>same p q&&sameL l l'
 | _,_=>false
end
def top (f:Int):Int:=if f=4∨f=5 then 7 else if f=2 then 15 else if f=0∨f=1∨f=3 then 255 else 0
def shape (k f v:Int) (n:Nat):Bool :=
 decide (k=3∧(0≤f∧f≤5)∧(0≤v∧v≤top f)∧n=0∨(k=1∨k=2)∧f=0∧v=0∧n=0∨k=4∧f=0∧v=0∧n=1∨(k=5∨k=6)∧f=0∧v=0∧2≤n∧n≤8)
mutual
def fits:T→Bool
 | .mk k f v l=>shape k f v l.length&&fitsL l
def fitsL:List T→Bool
 | []=>true
 | p::l=>fits p&&fitsL l
end
def right (p:T):Bool:=fits p&&(decide (size p≤64)&&decide (deep p≤8))
structure At where
 sw:Int
 port:Int
 p0:Int
 p1:Int
 p2:Int
 p3:Int
def get (f:Int) (x:At):Int:=if f=0 then x.p0 else if f=1 then x.p1 else if f=2 then x.p2 else if f=3 then x.p3 else if f=4 then x.port else if f=5 then x.sw else -1
mutual
def hits (x:At):T→Bool
 | .mk k f v l=>if k=1 then true else if k=3 then decide ((0≤f∧f≤5)∧get f x=v) else if k=4 then (match l with | []=>false | _::_=>!hits1 x l) else if k=5 then hitsAll x l else if k=6 then !hitsNone x l else false
def hits1 (x:At):List T→Bool
 | []=>false
 | p::_=>hits x p
def hitsAll (x:At):List T→Bool
 | []=>true
 | p::l=>hits x p&&hitsAll x l
def hitsNone (x:At):List T→Bool
 | []=>true
 | p::l=>!hits x p&&hitsNone x l
end
theorem sizeL_append (a b:List T):sizeL (a++b)=sizeL a+sizeL b:=by
 induction a with
 | nil=>simp [sizeL]
 | cons p a ih=>simp only [List.cons_append,sizeL,ih];omega
theorem sizeL_take {l:List T} {k:Nat} (h:k<l.length):sizeL (l.take (k+1))=sizeL (l.take k)+size l[k]:=by
 rw [List.take_add_one,List.getElem?_eq_getElem h,sizeL_append]
 simp [sizeL]
theorem size_pos:∀ p:T,1≤size p
 | .mk _ _ _ l=>by rw [size];omega
theorem sizeL_le {l:List T}:∀ {k:Nat},sizeL (l.take k)≤sizeL l:=fun {k}=>by
 have:=sizeL_append (l.take k) (l.drop k)
 rw [List.take_append_drop] at this
 omega
theorem size_lt {k f v:Int} {l:List T} {p:T} (h:p∈l):size p<size (.mk k f v l):=by
 have:size p≤sizeL l:=by
  induction l with
  | nil=>cases h
  | cons q l ih =>
   rw [sizeL]
   rcases List.mem_cons.1 h with rfl | h
   ·omega
   ·have:=ih h;omega
 rw [size];omega
theorem length_le (l:List T):l.length≤sizeL l:=by
 induction l with
 | nil=>simp [sizeL]
 | cons p l ih=>have:=size_pos p;rw [sizeL,List.length_cons];omega
theorem deepL_append (a b:List T):deepL (a++b)=max (deepL a) (deepL b):=by
 induction a with
 | nil=>simp [deepL]
 | cons p a ih=>simp only [List.cons_append,deepL,ih];omega
theorem deepL_take {l:List T} {k:Nat} (h:k<l.length):deepL (l.take (k+1))=max (deepL (l.take k)) (deep l[k]):=by
 rw [List.take_add_one,List.getElem?_eq_getElem h,deepL_append]
 simp [deepL]
mutual
theorem deep_size:∀ p:T,deep p≤size p
 | .mk _ _ _ l=>by have:=deepL_size l;rw [deep,size];omega
theorem deepL_size:∀ l:List T,deepL l≤sizeL l
 | []=>by simp [deepL]
 | p::l=>by have:=deep_size p;have:=deepL_size l;rw [deepL,sizeL];omega
end
theorem fitsL_iff (l:List T):fitsL l=true↔∀ p∈l,fits p=true:=by
 induction l with
 | nil=>simp [fitsL]
 | cons p l ih=>simp only [fitsL,Bool.and_eq_true,ih,List.mem_cons,forall_eq_or_imp]
theorem sameL_iff:∀ (a b:List T),sameL a b=true↔a.length=b.length∧∀ (k:Nat) (x y:T),a[k]?=some x→b[k]?=some y→same x y=true
 | [],[]=>by simp [sameL]
 | [],_::_=>by simp [sameL]
 | _::_,[]=>by simp [sameL]
 | x::a,y::b=>by
  simp only [sameL,Bool.and_eq_true,sameL_iff a b]
  constructor
  ·rintro ⟨h1,h2,h3⟩
   refine ⟨by simp [h2],fun k p q hp hq=>?_⟩
   cases k with
   | zero=>simp at hp hq;subst hp hq;exact h1
   | succ k=>exact h3 k p q (by simpa using hp) (by simpa using hq)
  ·rintro ⟨h1,h2⟩
   exact ⟨h2 0 x y rfl rfl,by simpa using h1,fun k p q hp hq=>h2 (k+1) p q (by simpa using hp) (by simpa using hq)⟩
mutual
theorem same_eq:∀ a b:T,same a b=true↔a=b
 | .mk k f v l,.mk k' f' v' l'=>by
  rw [same]
  simp only [Bool.and_eq_true,decide_eq_true_eq,sameL_eq l l',T.mk.injEq,and_assoc]
theorem sameL_eq:∀ a b:List T,sameL a b=true↔a=b
 | [],[]=>by simp [sameL]
 | [],_::_=>by simp [sameL]
 | _::_,[]=>by simp [sameL]
 | p::l,q::l'=>by rw [sameL,Bool.and_eq_true,same_eq p q,sameL_eq l l',List.cons.injEq]
end
theorem hitsAll_iff (x:At) (l:List T):hitsAll x l=true↔∀ p∈l,hits x p=true:=by
 induction l with
 | nil=>simp [hitsAll]
 | cons p l ih=>simp only [hitsAll,Bool.and_eq_true,ih,List.mem_cons,forall_eq_or_imp]
theorem hitsNone_iff (x:At) (l:List T):hitsNone x l=true↔∀ p∈l,hits x p=false:=by
 induction l with
 | nil=>simp [hitsNone]
 | cons p l ih=>simp only [hitsNone,Bool.and_eq_true,ih,List.mem_cons,forall_eq_or_imp,Bool.not_eq_true']
end Pd
end Go.Proofs.YtmehinfgdcmmjaaGreatDoor
namespace Go.Sx
set_option linter.unusedVariables false
section
variable {P:Program}
def lg (js:List Nat) (H:List Blk) (sl:List AV) (t:Nat):Bool :=
 match sl[t]? with
 | some (.hp _ _)=>!js.contains 0
 | some (.hs _ _)=>!js.contains 0
 | some (.ptr j _ _)=>!js.contains j&&decide (j<H.length)
 | some (.sl j _ _)=>!js.contains j&&decide (j<H.length)
 | some (.view j _ _ _ _)=>!js.contains j&&decide (j<H.length)
 | some (.raw _)=>true
 | _=>false
def ol (js:List Nat) (H:List Blk) (sl:List AV):Op→Bool
 | .load _ (.tmp t)=>lg js H sl t
 | .indexAddr _ (.tmp t) _=>lg js H sl t
 | .slice _ (.tmp t) _ _ _=>lg js H sl t
 | _=>false
def rM (js:List Nat) (H:List Blk) (sl:List AV):Op→Bool
 | .call c=>match c.callee,c.args.toList with
  | .builtin .len,[.tmp t]=>match sl[t]? with
   | some (.sl j _ _)=>js.contains j||decide (H.length≤j)
   | some (.view j _ _ _ _)=>js.contains j||decide (H.length≤j)
   | _=>false
  | _,_=>false
 | _=>false
def rI (P:Program) (js:List Nat) (H:List Blk) (sl:List AV) (op:Op):Bool:=(oS P op&&!rM js H sl op)||ol js H sl op
def fZ (js:List Nat) (H m:List Blk):Prop:=(hideF js 0 m).take H.length=H
theorem fZ.mem {js:List Nat} {H m:List Blk} (h:fZ js H m) {w:World} (hm:Qx m w):Qx H w:=by
 have h1:=kL (js:=js) 0 hm
 exact ((Qw.pre H.length h) w h1).1
def fO (P:Program) (js:List Nat) (H:List Blk) (sl:List AV) (done:List Nat):Nat→List Oper→Option (Nat × Oper)
 | _,[]=>none
 | i,o::os=>match done.contains i,lN o done,rI P js H sl o.op with
  | false,true,true=>some (i,o)
  | _,_,_=>fO P js H sl done (i+1) os
theorem jz {js:List Nat} {H:List Blk} {sl:List AV} {done:List Nat}:∀ (os:List Oper) (i j:Nat) (o:Oper),fO P js H sl done i os=some (j,o)→∃ t,j=i+t∧os[t]?=some o
 | [],_,_,_,h=>by simp [fO] at h
 | x::os,i,j,o,h=>by
  unfold fO at h
  split at h
  ·simp only [Option.some.injEq,Prod.mk.injEq] at h
   obtain ⟨rfl,rfl⟩:=h
   exact ⟨0,rfl,rfl⟩
  ·obtain ⟨t,h1,h2⟩:=jz os (i+1) j o h
   exact ⟨t+1,by omega,by simpa using h2⟩
def KpS (H:List Blk) (w:World):Prop:=Qx H w
@[irreducible] def bK (P:Program) (js:List Nat) (H:List Blk) (l:List Oper) (n:Nat) (done:List Nat) (sl:List AV) (m:List Blk) (k:List AV→List Blk→Prop):Prop :=
 ∀ (w0:World) (S:Own) (a:Act) (w:World),Sim w0 S sl m a w→wpAnyH P .any l.toArray (gq w0 S k) (KpS H) n (aU l.length done) a w
@[irreducible] def bw (P:Program) (js:List Nat) (H:List Blk) (l:List Oper) (n:Nat) (done:List Nat) (sl:List AV) (m:List Blk) (k:List AV→List Blk→Prop) (rs:List (Nat × Oper)):Prop :=
 ∀ x∈rs,∀ (w0:World) (S:Own) (a:Act) (w:World),Sim w0 S sl m a w→l.toArray[x.1]?=some x.2→wpOp P l.toArray (gq w0 S k) x.1 (fun a w=>KpS H w∧wpAnyH P .any l.toArray (gq w0 S k) (KpS H) n (aU l.length (x.1::done)) a w) a w
theorem me {Q:Post} {sl:List AV} {m:List Blk} {id:Nat} {l:List Oper} {js:List Nat} {H:List Blk} (hF:fZ js H m) (h1:P.follows .mixedOrders=true) (n:Nat) (hn:l.length=n) (h:bK P js H l n [] sl m (fN Q)):codeK P (.region id l.toArray true) sl m Q:=by
 simp only [codeK]
 subst hn
 unfold NDraw
 intro id w0 S a w hs
 unfold bK at h
 refine wp_region_held (S:=KpS H) h1 ?_
 have:=h w0 S a { w with drawn:=w.drawn+1 } ⟨hs.slots,hs.defers,hs.mem.keep (Nat.le_refl _) (fun _ _ _ _=>rfl),⟨hs.fr.os,hs.fr.tape,hs.fr.output,hs.fr.size,hs.fr.block⟩,hs.fresh⟩
 show wpAnyH P .any l.toArray (gq w0 S (fN Q)) _ _ _ a _
 simpa [aU] using this
section
variable {js:List Nat} {H:List Blk} {l:List Oper} {n i:Nat} {done:List Nat} {sl:List AV} {m:List Blk} {k:List AV→List Blk→Prop}
theorem eM {o:Oper} {v:AV} {sl':List AV} (hn:fO P js H sl done 0 l=some (i,o)) (hc:lq l done i=true) (hF:fZ js H m)
  (h:bK P js H l n (i::done) sl' m k) {w0:World} {S:Own} {a:Act} {w:World} (hs:Sim w0 S sl m a w) (hy:YieldsIf P l.toArray (KpS H) o v.den a) (hs':Qy sl' (a.put o.dst v.den).tmps) :
  wpAnyH P .any l.toArray (gq w0 S k) (KpS H) (n+1) (aU l.length done) a w:=by
 obtain ⟨t,ht,ho⟩:=jz l 0 i o hn
 obtain rfl:i=t:=by omega
 simp only [lq,Bool.and_eq_true] at hc
 obtain ⟨⟨h1,h2⟩,h3⟩:=hc
 have ho':l.toArray[i]?=some o:=by simpa using ho
 unfold bK at h
 exact wpAnyH_take ho' h1 h2 h3 (fun c a w hq=>by cases hq.1) hy (hF.mem hs.mem) (h w0 S _ w (hs.step hs' hs.mem hs.fr hs.fresh))
theorem oD {d:Option Tmp} {op:Op} {t:TypeId} {p:String} {e:Array Edge} (hn:fO P js H sl done 0 l=some (i,⟨d,op,t,p,e,none⟩)) (hc:lq l done i=true) (hF:fZ js H m)
  (h:∀ K:List AV→Prop,(∀ sl,bK P js H l n (i::done) sl m k→K sl)→opV P sl H op fun v=>dstK sl d v K):bK P js H l (n+1) done sl m k:=by
 unfold bK
 intro w0 S a w hs
 obtain ⟨v,h1,h2⟩:=dG hs.slots (h _ fun _ h=>h)
 obtain ⟨sl',h3,h4⟩:=aO h1 hs.slots
 exact eM hn hc hF h3 hs (.inl ⟨rfl,fun w hw=>h2 w hw _ rfl⟩) h4
theorem mh {d:Option Tmp} {op:Op} {t:TypeId} {p:String} {e:Array Edge} {g:Nat × Bool} (hn:fO P js H sl done 0 l=some (i,⟨d,op,t,p,e,some g⟩)) (hc:lq l done i=true) (hF:fZ js H m)
  (h:∀ K:List AV→Prop,(∀ sl,bK P js H l n (i::done) sl m k→K sl)→guardK l.toArray sl g.1 g.2 (opV P sl H op fun v=>dstK sl d v K) (dstK sl d (.raw undef) K)):bK P js H l (n+1) done sl m k:=by
 unfold bK
 intro w0 S a w hs
 rcases bH (h _ fun _ h=>h) hs.slots (o:=⟨d,op,t,p,e,some g⟩) rfl with ⟨hw,h⟩ | ⟨hw,h⟩
 ·obtain ⟨v,h1,h2⟩:=dG hs.slots h
  obtain ⟨sl',h3,h4⟩:=aO h1 hs.slots
  exact eM hn hc hF h3 hs (.inl ⟨hw,fun w hw=>h2 w hw _ rfl⟩) h4
 ·obtain ⟨sl',h3,h4⟩:=aO h hs.slots
  exact eM (v:=.raw undef) hn hc hF h3 hs (.inr ⟨hw,rfl⟩) h4
theorem oC {rs:List (Nat × Oper)} (_hn:fO P js H sl done 0 l=none) (hr:readys done 0 l=rs) (hc:fX l done rs=true) (hne:rs≠[]) (h:bw P js H l n done sl m k rs):bK P js H l (n+1) done sl m k:=by
 unfold bK
 intro w0 S a w hs
 have hc:Region.ready .any l.toArray (aU l.length done)=rs.map (·.1):=by simpa [fX] using hc
 refine wpAnyH_all hc (fun e=>hne (by simpa using e)) fun i hi=>?_
 obtain ⟨x,hx,rfl⟩:=List.mem_map.1 hi
 obtain ⟨t,h1,h2⟩:=dF l 0 x (hr ▸ hx)
 unfold bw at h
 exact h x hx w0 S a w hs (by rw [h1];simpa using h2)
theorem oE (_hr:readys done 0 l=[]) (hc:fX l done []=true) (h:k sl m):bK P js H l n done sl m k:=by
 unfold bK
 intro w0 S a w hs
 have hc:Region.ready .any l.toArray (aU l.length done)=[]:=by simpa [fX] using hc
 exact wpAnyH_done hc ⟨rfl,sl,m,h,hs⟩ n
theorem gy:bw P js H l n done sl m k []:=by unfold bw;intro x hx;cases hx
theorem jX {rs:List (Nat × Oper)} {d:Option Tmp} {op:Op} {t:TypeId} {p:String} {e:Array Edge}
  (h:∀ K:List AV→List Blk→Prop,(∀ sl m,bK P js H l n (i::done) sl m k→K sl m)→opM P sl m op fun v m'=>NH (fZ js H m') (dstK sl d v fun sl'=>K sl' m')) (hr:bw P js H l n done sl m k rs):bw P js H l n done sl m k ((i,⟨d,op,t,p,e,none⟩)::rs):=by
 unfold bw at *
 intro x hx
 rcases List.mem_cons.1 hx with rfl | hx
 ·intro w0 S a w hs ho
  unfold wpOp
  simp only [ho]
  rw [if_pos (show Region.wanted ⟨d,op,t,p,e,none⟩ (yielded l.toArray a.tmps)=true from rfl)]
  refine .inl (cM hs.slots hs.mem hs.fr hs.fresh (o:=⟨d,op,t,p,e,none⟩) (h _ fun _ _ h=>h) fun v m' w' hl=>?_)
  obtain ⟨h0,hk⟩:=aL.1 hl.k
  obtain ⟨sl',h1,h2⟩:=aO hk hs.slots
  unfold bK at h1
  exact ⟨h0.mem hl.mem,h1 w0 S _ _ (hs.step h2 hl.mem hl.fr hl.fresh)⟩
 ·exact hr x hx
theorem gx {rs:List (Nat × Oper)} {d:Option Tmp} {op:Op} {t:TypeId} {p:String} {e:Array Edge} {g:Nat × Bool} (hF:fZ js H m)
  (h:∀ K:List AV→List Blk→Prop,(∀ sl m,bK P js H l n (i::done) sl m k→K sl m)→guardK l.toArray sl g.1 g.2 (opM P sl m op fun v m'=>NH (fZ js H m') (dstK sl d v fun sl'=>K sl' m')) (dstK sl d (.raw undef) fun sl'=>K sl' m)) (hr:bw P js H l n done sl m k rs):bw P js H l n done sl m k ((i,⟨d,op,t,p,e,some g⟩)::rs):=by
 unfold bw at *
 intro x hx
 rcases List.mem_cons.1 hx with rfl | hx
 ·intro w0 S a w hs ho
  unfold wpOp
  simp only [ho]
  rcases bH (h _ fun _ _ h=>h) hs.slots (o:=⟨d,op,t,p,e,some g⟩) rfl with ⟨hw,h⟩ | ⟨hw,h⟩
  ·rw [if_pos hw]
   refine .inl (cM hs.slots hs.mem hs.fr hs.fresh (o:=⟨d,op,t,p,e,some g⟩) h fun v m' w' hl=>?_)
   obtain ⟨h0,hk⟩:=aL.1 hl.k
   obtain ⟨sl',h1,h2⟩:=aO hk hs.slots
   unfold bK at h1
   exact ⟨h0.mem hl.mem,h1 w0 S _ _ (hs.step h2 hl.mem hl.fr hl.fresh)⟩
  ·rw [if_neg (by simp [hw])]
   obtain ⟨sl',h3,h4⟩:=aO h hs.slots
   unfold bK at h3
   exact ⟨hF.mem hs.mem,h3 w0 S _ _ (hs.step (v:=undef) h4 hs.mem hs.fr hs.fresh)⟩
 ·exact hr x hx
def pO:Nat→List Nat
 | 0=>[]
 | j+1=>j::pO j
@[irreducible] def gk (P:Program) (js:List Nat) (H:List Blk) (l:List Oper) (n j:Nat) (rest:List Oper) (sl:List AV) (m:List Blk) (k:List AV→List Blk→Prop):Prop :=
 l.drop j=rest→bK P js H l n (pO j) sl m k
theorem md {Q:Post} {id:Nat} (js:List Nat) (hH:hideF js 0 m=H) (hF:fZ js H m) (h1:P.follows .mixedOrders=true) (n:Nat) (hn:l.length=n) (h:gk P js H l n 0 l sl m (fN Q)):codeK P (.region id l.toArray true) sl m Q:=by
 unfold gk at h
 exact me hF h1 n hn (h rfl)
theorem kz {j:Nat} {rest:List Oper} (h:bK P js H l n (pO j) sl m k):gk P js H l n j rest sl m k:=by
 unfold gk
 intro _
 exact h
end
end
theorem rF {P:Program} {js:List Nat} {H:List Blk} {l:List Oper} {n:Nat} {sl:List AV} {m:List Blk} {k:List AV→List Blk→Prop} {done:List Nat} (h:bK P js H l n done sl m k):bK P js H l n done sl m k:=h
theorem rH {P:Program} {js:List Nat} {H:List Blk} {l:List Oper} {n:Nat} {sl:List AV} {m:List Blk} {k:List AV→List Blk→Prop} {done:List Nat} {rs:List (Nat × Oper)} (h:bw P js H l n done sl m k rs):bw P js H l n done sl m k rs:=h
theorem rE {P:Program} {js:List Nat} {H:List Blk} {l:List Oper} {n:Nat} {sl:List AV} {m:List Blk} {k:List AV→List Blk→Prop} {j:Nat} {rest:List Oper} (h:gk P js H l n j rest sl m k):gk P js H l n j rest sl m k:=h
theorem qb {js:List Nat} {H m:List Blk} (h:(hideF js 0 m).take H.length=H):fZ js H m:=h
theorem rL {G G':Prop} (r:G') (h:bC G'→G:=by
 intro r
 (first|(((with_reducible refine gH ?_);(with_reducible refine NH.mk ?s ?_);case s=>((with_reducible refine qb ?_);exact rfl))<;>(conv=>whnf))|((first|((with_reducible refine gV ?_);(first|((with_reducible first|refine NV.quo ?s ?_|refine NV.rem ?s ?_|refine NV.i64 ?s ?_|refine NV.u32 ?s ?_|refine NV.u8 ?s ?_|refine NV.u64 ?s ?_);case s=>omega)|(with_reducible first|refine NV.divk ?_|refine NV.modk ?_|refine NV.keep ?_)))|((with_reducible refine gI ?_);(first|with_reducible refine NIf.not_ ?_|((with_reducible refine NIf.decY ?s ?_);case s=>first|with_reducible rfl|assumption|omega)|((with_reducible refine NIf.decN ?s ?_);case s=>first|with_reducible rfl|assumption|omega)|((with_reducible refine NIf.yes ?s ?_);case s=>first|rfl|assumption)|((with_reducible refine NIf.no ?s ?_);case s=>first|rfl|assumption)))|((with_reducible refine gN ?_);(with_reducible first|refine NN.lit ?_|refine NN.cast ?_|refine NN.a1 ?_|refine NN.a2 ?_|refine NN.a3 ?_|refine NN.a4 ?_|refine NN.a5 ?_|refine NN.a6 ?_|refine NN.keep ?_))|((with_reducible refine gH ?_);((with_reducible refine NH.mk ?s ?_);case s=>(and_intros<;>first|with_reducible rfl|((with_reducible refine fP ?_);rfl)|((with_reducible refine kM ?_);rfl)|omega|assumption|exact Nat.le_of_ble_eq_true rfl|(simp only [List.length_append,List.length_cons,List.length_nil];omega)|rfl)))|(with_reducible refine NS.keep ?_)|(with_reducible refine NLd.of (by with_reducible assumption) ?_))<;>(conv=>whnf))|((refine bL.2 ⟨⟨?s1,?s2⟩,?_⟩;(case s1=>decide +kernel);(case s2=>decide +kernel))<;>(conv=>whnf)))
 exact r.go):G:=h ⟨r⟩
theorem mg {P:Program} {H:List Blk} {l:List Oper} {sl:List AV} {m:List Blk} {Q:Post} {id:Nat} {js:List Nat} (_:rK js) (hH:hideF js 0 m=H) (hF:fZ js H m) (h1:P.follows .mixedOrders=true) (n:Nat) (hn:l.length=n) (h:gk P js H l n 0 l sl m (fN Q)):codeK P (.region id l.toArray true) sl m Q:=md js hH hF h1 n hn h
theorem aJ {G G':Prop} (js:List Nat) (r:G') (h:rK js→bC G'→G:=by
 intro j r
 repeat1' (first|(with_reducible first|(refine hK _ _ ?_;try clear hK K)|(refine hA ?_;try clear hA hB A B)|(refine hB ?_;try clear hA hB A B)|(refine hK _ ?_;try clear hK K))|(intro K hK;first|(with_reducible first|refine hK _ _ ?_|refine hK _ ?_)|refine rL ?_)|(((with_reducible refine gH ?_);(with_reducible refine NH.mk ?s ?_);case s=>((with_reducible refine qb ?_);exact rfl))<;>(conv=>whnf))|((first|((with_reducible refine gV ?_);(first|((with_reducible first|refine NV.quo ?s ?_|refine NV.rem ?s ?_|refine NV.i64 ?s ?_|refine NV.u32 ?s ?_|refine NV.u8 ?s ?_|refine NV.u64 ?s ?_);case s=>omega)|(with_reducible first|refine NV.divk ?_|refine NV.modk ?_|refine NV.keep ?_)))|((with_reducible refine gI ?_);(first|with_reducible refine NIf.not_ ?_|((with_reducible refine NIf.decY ?s ?_);case s=>first|with_reducible rfl|assumption|omega)|((with_reducible refine NIf.decN ?s ?_);case s=>first|with_reducible rfl|assumption|omega)|((with_reducible refine NIf.yes ?s ?_);case s=>first|rfl|assumption)|((with_reducible refine NIf.no ?s ?_);case s=>first|rfl|assumption)))|((with_reducible refine gN ?_);(with_reducible first|refine NN.lit ?_|refine NN.cast ?_|refine NN.a1 ?_|refine NN.a2 ?_|refine NN.a3 ?_|refine NN.a4 ?_|refine NN.a5 ?_|refine NN.a6 ?_|refine NN.keep ?_))|((with_reducible refine gH ?_);((with_reducible refine NH.mk ?s ?_);case s=>(and_intros<;>first|with_reducible rfl|((with_reducible refine fP ?_);rfl)|((with_reducible refine kM ?_);rfl)|omega|assumption|exact Nat.le_of_ble_eq_true rfl|(simp only [List.length_append,List.length_cons,List.length_nil];omega)|rfl)))|(with_reducible refine NS.keep ?_)|(with_reducible refine NLd.of (by with_reducible assumption) ?_))<;>(conv=>whnf))|((first|((with_reducible refine gO ?_);(with_reducible first|refine z25 ?_|refine z26 ?_))|((with_reducible refine gP ?_);(with_reducible first|refine z27 ?_|refine z28 ?_))|((with_reducible refine gR ?_);(first|refine z31 rfl ?_|refine z32 rfl ?_))|((with_reducible refine gF ?_);(refine z33 rfl ?_))|((with_reducible refine rE ?_);(first|((with_reducible refine st_ordS1 ?s1 ?s2 ?s3 ?_);(case s1=>kernel_rfl);(case s2=>kernel_rfl);(case s3=>exact rfl))|((with_reducible refine st_ordS1g ?s1 ?s2 ?s3 ?_);(case s1=>kernel_rfl);(case s2=>kernel_rfl);(case s3=>exact rfl))|((with_reducible refine st_ordS2 ?s2 ?_);(case s2=>kernel_rfl))|((with_reducible refine st_ordS2g ?s2 ?s3 ?_);(case s2=>kernel_rfl);(case s3=>exact rfl))))|((with_reducible refine rF ?_);(first|refine oD rfl (by kernel_rfl) rfl ?_|refine mh rfl (by kernel_rfl) rfl ?_)));intro K hK;conv=>whnf)|((with_reducible refine gO ?_);(with_reducible first|refine z0 ?_))|((with_reducible refine gP ?_);(with_reducible first|refine z24 ?_))|((with_reducible refine gX ?_);(with_reducible first|refine z3 ?_|refine z4 ?_|refine z5 ?_|refine z6 ?_|refine z7 ?_|refine z8 ?_|refine z14 ?_|refine z15 ?_))|(with_reducible first|refine z1 ?_|refine z2 ?_|refine z9 ?_|refine z10 ?_|refine z11 ?_|refine z12 ?_|refine z13 ?_|refine z16 ?_|refine z17 ?_|refine z18 ?_|refine z19 ?_|refine z20 ?_|refine z21 ?_|refine z22 ?_|refine z23 ?_)|((with_reducible refine gB ?_);(refine z30 (by decide) ?_))|((with_reducible refine rE ?_);(first|((with_reducible refine st_ordS0 ?s2 ?_);(case s2=>kernel_rfl))|(with_reducible refine kz ?_)))|((with_reducible refine rF ?_);(first|(refine oE rfl (by kernel_rfl) ?_)|(refine oC rfl rfl (by kernel_rfl) (by intro h;cases h) ?_)))|((with_reducible refine gX ?_);(refine mg j rfl rfl (by kernel_rfl) _ rfl ?_))|((with_reducible refine rH ?_);(first|(refine jX ?_ gy;intro K hK;conv=>whnf)|(refine gx rfl ?_ gy;intro K hK;conv=>whnf)))|((first|((with_reducible refine gX ?_);(with_reducible refine z29 ?_)));intro A B hA hB;conv=>whnf)|((refine bL.2 ⟨⟨?s1,?s2⟩,?_⟩;(case s1=>decide +kernel);(case s2=>decide +kernel))<;>(conv=>whnf)))
 (first|exact r.go|(revert K hK;exact r.go)|(revert A B hA hB;exact r.go))):G:=h ⟨⟩ ⟨r⟩
theorem aK {G A' B':Prop} (ra:A') (rb:B') (h:bC A'→bC B'→G:=by
 intro ra rb
 (with_reducible refine rH ?_);(first|refine jX ?_ ?_|refine gx rfl ?_ ?_);(intro K hK;(conv=>whnf);revert K hK;exact ra.go);exact rb.go):G:=h ⟨ra⟩ ⟨rb⟩
end Go.Sx
