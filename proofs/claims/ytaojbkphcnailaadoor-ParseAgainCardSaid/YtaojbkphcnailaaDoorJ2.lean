import Derived.Test.YtaojbkphcnailaaDoorJ1
import Derived.Test.YtaojbkphcnailaaDoorSxC
namespace Go.Sx
set_option linter.unusedVariables false
open Go.RowKit
section
variable {P:Program}
theorem ncallD_of {g:FuncId} {fn:Func} {id:Nat} {t7 t3:Tmp} {rest:Code} {ty1 ty2:TypeId} {p1 p2:String} {e1 e2:Array Edge} (hf:P.funcs[g]?=some fn)
    (hc:fn.body=some (.seq (.region id #[⟨some t7,.call { callee:=.builtin .recover,args:=#[],argTypes:=#[] },ty1,p1,e1,none⟩,⟨some t3,.assign (.tmp t7),ty2,p2,e2,none⟩] false) rest))
    (hn : (fn.name == "runtime.NumGoroutine") = false) (hres : fn.results.toList = []) {args : List AV} {m : List Blk} {u u' : FrameMode} {rv : AV} {K : FrameMode → List Blk → Prop}
    (hrec:∀ (c₀:Frame) (cs:List Frame),c₀.mode=u→(recoverD (c₀::cs)=some (rv.den,{ c₀ with mode:=u' }::cs))∨(recoverD (c₀::cs)=none∧rv.den = .nilIface∧u'=u))
    (h:argK args fn.ntmps fun sl=>dstK sl (some t7) rv fun sl1=>evK sl1 (.tmp t7) fun x=>dstK sl1 (some t3) x fun sl2=>codeX P rest sl2 m fun e _ m'=>(e = .normal∨e = .ret)∧K u' m'):NCallD P g args m u K:=by
  unfold NCallD
  refine ⟨enters_of hf (by rw [hc];rfl) hn,fun w hm=>?_⟩
  obtain ⟨hlen,h⟩:=argK_spec h
  refine callsD_of_wpS hf hc fun c₀ cs hu=>?_
  have hs0:SlotsOk (args++List.replicate (fn.ntmps - args.length) .any) ({ tmps:=(denL args).toArray++Array.replicate (fn.ntmps - (denL args).toArray.size) undef,defers:=[] }:Act).tmps:=args_ok hlen
  obtain ⟨sl1,h1,h2⟩:=dstK_spec h hs0
  obtain ⟨x,h3,h4⟩:=evK_spec h2 h1
  obtain ⟨sl2,h5,h6⟩:=dstK_spec h3 h2
  generalize hA:({ tmps:=(denL args).toArray++Array.replicate (fn.ntmps - (denL args).toArray.size) undef,defers:=[] }:Act)=A at *
  have hAd:A.defers=[]:=by rw [← hA]
  have hrest:∀ cs',cs'={ c₀ with mode:=u' }::cs→rest.wpS P (bodyPostS P fn c₀ cs fun e u' w'=>∃ m',K u' m'∧e = .returned (.tuple #[])∧MemOk m' w'∧Fr (wrs m) w w'∧Fresh (own m) w m') ((A.put (some t7) rv.den).put (some t3) x.den) cs' w:=fun cs' hcs=>by
    subst hcs
    have hsim:Sim w (own m) sl2 m ((A.put (some t7) rv.den).put (some t3) x.den) w:=⟨h6,by rw [put_defers,put_defers,hAd];rfl,hm,Fr.refl _ w,fun b hb=>.inl hb,fun b hb=>.inl hb⟩
    refine wpS_of_wp (wp_mono (codeX_sound h5 hsim) fun e a w' hq=>?_)
    obtain ⟨sl',m',g1,g2⟩:=hq
    obtain ⟨he,g3⟩:=g1
    have hk:resK P m' sl' fn.results.toList fun xs=>xs=[]:=by
      rw [hres]
      exact rfl
    obtain ⟨xs,rfl,g4⟩:=results_spec g2.slots hk
    rcases he with rfl | rfl
    · exact ⟨g2.defers,u',rfl,_,g4 w' g2.mem,m',g3,rfl,g2.mem,g2.fr,g2.fresh⟩
    · exact ⟨g2.defers,u',rfl,_,g4 w' g2.mem,m',g3,rfl,g2.mem,g2.fr,g2.fresh⟩
  apply wpS_seq
  apply wpS_region
  show wpOpsS P _ _ [0,1] A (c₀::cs) w
  have er:(execOp A.eval ⟨some t7,.call { callee:=.builtin .recover,args:=#[],argTypes:=#[] },ty1,p1,e1,none⟩).run P w = .ok .recover w:=by
    simp [execOp,resolve,invoke,builtin]
  have ea:∀ v,(execOp (A.put (some t7) v).eval ⟨some t3,.assign (.tmp t7),ty2,p2,e2,none⟩).run P w = .ok (.value ((A.put (some t7) v).eval (.tmp t7))) w:=fun v=>rfl
  have w1:Region.wanted (⟨some t7,.call { callee:=.builtin .recover,args:=#[],argTypes:=#[] },ty1,p1,e1,none⟩:Oper)=fun _=>true:=by
    funext y
    simp [Region.wanted]
  have w2:Region.wanted (⟨some t3,.assign (.tmp t7),ty2,p2,e2,none⟩:Oper)=fun _=>true:=by
    funext y
    simp [Region.wanted]
  unfold wpOpsS
  simp only [List.getElem?_toArray,List.getElem?_cons_zero,w1,if_true,er]
  rcases hrec c₀ cs hu with hr | ⟨hr,hv,rfl⟩
  · rw [hr]
    dsimp only
    unfold wpOpsS
    simp only [List.getElem?_toArray,List.getElem?_cons_succ,List.getElem?_cons_zero,w2,if_true,ea,h4]
    rw [Oper.upon_value]
    exact hrest _ rfl
  · rw [hr]
    dsimp only
    unfold wpOpsS
    rw [← hv]
    simp only [List.getElem?_toArray,List.getElem?_cons_succ,List.getElem?_cons_zero,w2,if_true,ea,h4]
    rw [Oper.upon_value]
    refine hrest _ ?_
    rw [← hu]
theorem ncallD_by {g:FuncId} {fn:Func} {id:Nat} {t7 t3:Tmp} {rest:Code} {ty1 ty2:TypeId} {p1 p2:String} {e1 e2:Array Edge} (hf:P.funcs[g]?=some fn)
    (hc:fn.body=some (.seq (.region id #[⟨some t7,.call { callee:=.builtin .recover,args:=#[],argTypes:=#[] },ty1,p1,e1,none⟩,⟨some t3,.assign (.tmp t7),ty2,p2,e2,none⟩] false) rest))
    (hn : (fn.name == "runtime.NumGoroutine") = false) (hres : fn.results.toList = []) {args : List AV} {m : List Blk} {u u' : FrameMode} {rv : AV} {K : FrameMode → List Blk → Prop}
    (hrec:∀ (c₀:Frame) (cs:List Frame),c₀.mode=u→(recoverD (c₀::cs)=some (rv.den,{ c₀ with mode:=u' }::cs))∨(recoverD (c₀::cs)=none∧rv.den = .nilIface∧u'=u))
    (h:∀ Q:List AV→Prop,(∀ sl,codeX P rest sl m (fun e _ m'=>(e = .normal∨e = .ret)∧K u' m')→Q sl)→argK args fn.ntmps fun sl=>dstK sl (some t7) rv fun sl1=>evK sl1 (.tmp t7) fun x=>dstK sl1 (some t3) x Q):NCallD P g args m u K:=by
  exact ncallD_of hf hc hn hres hrec (h _ fun _ h=>h)
theorem NCallD.subw {g:FuncId} {args:List AV} {m:List Blk} {u:FrameMode} {K KL:FrameMode→List Blk→Prop} (idx:List Nat) (args':List AV) (mL:List Blk) (h:NCallD P g args' mL u KL) (hargs:denL args'=denL args)
    (hn:idx.Nodup) (hmL:idx.map (fun i=>m[i]?)=mL.map some)
    (hK:∀ u' bs,KL u' bs→idx.length≤bs.length∧repK m idx bs (K u')):NCallD P g args m u K:=by
  obtain ⟨h1,h2⟩:=sub_frame (mL:=mL) idx hn hmL
  unfold NCallD at h ⊢
  refine ⟨h.1,fun w hm=>?_⟩
  have h3:=(h.2 w (h1 w hm).1).mono (R':=fun e u' w'=>∃ m',K u' m'∧e = .returned (.tuple #[])∧MemOk m' w'∧Fr (wrs m) w w'∧Fresh (own m) w m') fun e u' w' hq=>by
    obtain ⟨bs,g1,rfl,g3,g4,g5⟩:=hq
    obtain ⟨g6,g7⟩:=hK u' bs g1
    obtain ⟨g8,g9⟩:=h2 bs g6 w w' hm g3 g4 g5
    exact ⟨_,repK_spec _ _ _ g7,rfl,g8,⟨g4.os,g4.tape,g4.output,g4.size,fun k hk hs=>g4.block k hk (fun ht=>hs ((h1 w hm).2 k ht))⟩,g9⟩
  rw [hargs] at h3
  exact h3
theorem ncall_deferred {f : FuncId} {fn : Func} {c : Code} (hf : P.funcs[f]? = some fn) (hc : fn.body = some c) (hn : (fn.name == "runtime.NumGoroutine") = false) {args : List AV} {m : List Blk} {K : AV → List Blk → Prop}
    (h:∀ Q:List AV→Prop,(∀ sl,NY P c [] sl m (fun ds e sl m'=>match e with
      | .normal=>NEnd P fn ds .returning sl m' K
      | .ret=>NEnd P fn ds .returning sl m' K
      | .panic ch=>NEnd P fn ds (.panicking ch) sl m' K
      | _=>False)→Q sl)→argK args fn.ntmps Q):NCall P f args m K:=ncall_defer hf hc hn (h _ fun _ h=>h)
end
end Go.Sx
namespace Go.Proofs.YtaojbkphcnailaaDoor
open Go.Sx
set_option maxRecDepth 20000
set_option linter.unusedVariables false
namespace Pd
inductive T where
  | mk (k f v:Int) (l:List T)
def T.k:T→Int | .mk k _ _ _=>k
def T.f:T→Int | .mk _ f _ _=>f
def T.v:T→Int | .mk _ _ v _=>v
def T.l:T→List T | .mk _ _ _ l=>l
mutual
def size:T→Nat
  | .mk _ _ _ l=>1+sizeL l
def sizeL:List T→Nat
  | []=>0
  | p::l=>size p+sizeL l
end
mutual
def deep:T→Nat
  | .mk _ _ _ l=>1+deepL l
def deepL:List T→Nat
  | []=>0
  | p::l=>max (deep p) (deepL l)
end
mutual
def same:T→T→Bool
  | .mk k f v l,.mk k' f' v' l'=>decide (k=k')&&decide (f=f')&&decide (v=v')&&sameL l l'
def sameL:List T→List T→Bool
  | [],[]=>true
  | p::l,q::l'=>same p q&&sameL l l'
  | _,_=>false
end
def top (f:Int):Int:=if f=4∨f=5 then 7 else if f=2 then 15 else if f=0∨f=1∨f=3 then 255 else 0
def shape (k f v:Int) (n:Nat):Bool :=
  decide (k=3∧(0≤f∧f≤5)∧(0≤v∧v≤top f)∧n=0∨(k=1∨k=2)∧f=0∧v=0∧n=0∨k=4∧f=0∧v=0∧n=1∨(k=5∨k=6)∧f=0∧v=0∧2≤n∧n≤8)
mutual
def fits:T→Bool
  | .mk k f v l=>shape k f v l.length&&fitsL l
def fitsL:List T→Bool
  | []=>true
  | p::l=>fits p&&fitsL l
end
def right (p:T):Bool:=fits p&&(decide (size p≤64)&&decide (deep p≤8))
theorem sizeL_append (a b:List T):sizeL (a++b)=sizeL a+sizeL b:=by
  induction a with
  | nil=>simp [sizeL]
  | cons p a ih=>simp only [List.cons_append,sizeL,ih];omega
theorem sizeL_take {l:List T} {k:Nat} (h:k<l.length):sizeL (l.take (k+1))=sizeL (l.take k)+size l[k]:=by
  rw [List.take_add_one,List.getElem?_eq_getElem h,sizeL_append]
  simp [sizeL]
theorem size_pos:∀ p:T,1≤size p
  | .mk _ _ _ l=>by rw [size];omega
theorem sizeL_le {l:List T}:∀ {k:Nat},sizeL (l.take k)≤sizeL l:=fun {k}=>by
  have:=sizeL_append (l.take k) (l.drop k)
  rw [List.take_append_drop] at this
  omega
theorem size_lt {k f v:Int} {l:List T} {p:T} (h:p∈l):size p<size (.mk k f v l):=by
  have:size p≤sizeL l:=by
    induction l with
    | nil=>cases h
    | cons q l ih =>
      rw [sizeL]
      rcases List.mem_cons.1 h with rfl | h
      · omega
      · have:=ih h;omega
  rw [size];omega
theorem length_le (l:List T):l.length≤sizeL l:=by
  induction l with
  | nil=>simp [sizeL]
  | cons p l ih=>have:=size_pos p;rw [sizeL,List.length_cons];omega
theorem deepL_append (a b:List T):deepL (a++b)=max (deepL a) (deepL b):=by
  induction a with
  | nil=>simp [deepL]
  | cons p a ih=>simp only [List.cons_append,deepL,ih];omega
theorem deepL_take {l:List T} {k:Nat} (h:k<l.length):deepL (l.take (k+1))=max (deepL (l.take k)) (deep l[k]):=by
  rw [List.take_add_one,List.getElem?_eq_getElem h,deepL_append]
  simp [deepL]
mutual
theorem deep_size:∀ p:T,deep p≤size p
  | .mk _ _ _ l=>by have:=deepL_size l;rw [deep,size];omega
theorem deepL_size:∀ l:List T,deepL l≤sizeL l
  | []=>by simp [deepL]
  | p::l=>by have:=deep_size p;have:=deepL_size l;rw [deepL,sizeL];omega
end
theorem fitsL_iff (l:List T):fitsL l=true↔∀ p∈l,fits p=true:=by
  induction l with
  | nil=>simp [fitsL]
  | cons p l ih=>simp only [fitsL,Bool.and_eq_true,ih,List.mem_cons,forall_eq_or_imp]
theorem sameL_iff:∀ (a b:List T),sameL a b=true↔a.length=b.length∧∀ (k:Nat) (x y:T),a[k]?=some x→b[k]?=some y→same x y=true
  | [],[]=>by simp [sameL]
  | [],_::_=>by simp [sameL]
  | _::_,[]=>by simp [sameL]
  | x::a,y::b=>by
    simp only [sameL,Bool.and_eq_true,sameL_iff a b]
    constructor
    · rintro ⟨h1,h2,h3⟩
      refine ⟨by simp [h2],fun k p q hp hq=>?_⟩
      cases k with
      | zero=>simp at hp hq;subst hp hq;exact h1
      | succ k=>exact h3 k p q (by simpa using hp) (by simpa using hq)
    · rintro ⟨h1,h2⟩
      exact ⟨h2 0 x y rfl rfl,by simpa using h1,fun k p q hp hq=>h2 (k+1) p q (by simpa using hp) (by simpa using hq)⟩
mutual
theorem same_eq:∀ a b:T,same a b=true↔a=b
  | .mk k f v l,.mk k' f' v' l'=>by
    rw [same]
    simp only [Bool.and_eq_true,decide_eq_true_eq,sameL_eq l l',T.mk.injEq,and_assoc]
theorem sameL_eq:∀ a b:List T,sameL a b=true↔a=b
  | [],[]=>by simp [sameL]
  | [],_::_=>by simp [sameL]
  | _::_,[]=>by simp [sameL]
  | p::l,q::l'=>by rw [sameL,Bool.and_eq_true,same_eq p q,sameL_eq l l',List.cons.injEq]
end
end Pd
end Go.Proofs.YtaojbkphcnailaaDoor
