import Derived.Test.YtmehinfgdcmmjaaGreatDoorJ30
import Derived.Defers
import Derived.Recover
import Derived.Test.YtmehinfgdcmmjaaGreatDoorSxC
import Derived.Test.YtmehinfgdcmmjaaGreatDoorJ1
namespace Go.Sx
set_option linter.unusedVariables false
open Go.RowKit
section
variable {P:Program}
@[irreducible] def NY (P:Program) (c:Code) (ds:List Deferred) (sl:List AV) (m:List Blk) (R:List Deferred→Post):Prop :=
  ∀ (w0:World) (W Fo:Nat→Prop) (a:Act) (w:World),Sim w0 ⟨W,Fo,ds⟩ sl m a w→c.wp P (fun e a w=>∃ ds' sl m,R ds' e sl m∧Sim w0 ⟨W,Fo,ds'⟩ sl m a w) a w
theorem ny_seq {x y:Code} {ds:List Deferred} {sl:List AV} {m:List Blk} {R:List Deferred→Post} (h:NY P x ds sl m fun ds' e sl m=>match e with
    | .normal=>NY P y ds' sl m R
    | e=>R ds' e sl m):NY P (.seq x y) ds sl m R:=by
  unfold NY at h ⊢
  intro w0 W Fo a w hs
  refine wp_seq (wp_mono (h w0 W Fo a w hs) fun e a w hq=>?_)
  obtain ⟨ds',sl',m',h1,h2⟩:=hq
  cases e with
  | normal =>
    exact h1 w0 W Fo a w h2
  | _=>exact ⟨ds',sl',m',h1,h2⟩
theorem ny_X {c:Code} {ds:List Deferred} {sl:List AV} {m:List Blk} {R:List Deferred→Post} (h:codeX P c sl m (R ds)):NY P c ds sl m R:=by
  unfold NY
  intro w0 W Fo a w hs
  refine wp_mono (codeX_sound h hs) fun e a w hq=>?_
  obtain ⟨sl',m',h1,h2⟩:=hq
  exact ⟨ds,sl',m',h1,h2⟩
theorem ny_defer {id:Nat} {t:Tmp} {g:FuncId} {caps:Array Operand} {ty1 ty2:TypeId} {p1 p2:String} {e1 e2:Array Edge} {ats:Array TypeId} {ds:List Deferred} {sl:List AV} {m:List Blk} {R:List Deferred→Post}
    (h:evLK sl caps.toList fun xs=>dstK sl (some t) (.fn g [] xs) fun sl'=>evK sl' (.tmp t) fun f=>match f with
      | .fn g first ys=>R ({ target:=.fn (.func g) (denL ys).toArray,args:=(denL first).toArray }::ds) .normal sl' m
      | _=>False) :
    NY P (.region id #[⟨some t,.makeFunc (.func g) #[] caps,ty1,p1,e1,none⟩,⟨none,.defer { callee:=.value (.tmp t),args:=#[],argTypes:=ats },ty2,p2,e2,none⟩] false) ds sl m R:=by
  unfold NY
  intro w0 W Fo a w hs
  obtain ⟨v,h1,h2⟩:=opV_spec (P:=P) (m:=m) (op:=.makeFunc (.func g) #[] caps) (K:=fun v=>dstK sl (some t) v fun sl'=>evK sl' (.tmp t) fun f=>match f with
      | .fn g first ys=>R ({ target:=.fn (.func g) (denL ys).toArray,args:=(denL first).toArray }::ds) .normal sl' m
      | _=>False) hs.slots h
  obtain ⟨sl',h3,h4⟩:=dstK_spec h1 hs.slots
  obtain ⟨f,h5,h6⟩:=evK_spec h4 h3
  split at h5
  · rename_i g' first ys
    refine wp_region_list ?_
    show wpList P _ _ [_,_] a w
    unfold wpList
    rw [if_pos (by simp [Region.wanted])]
    refine .inl ?_
    unfold Oper.wp
    rw [h2 w hs.mem _ rfl,Oper.upon_value]
    unfold wpList
    rw [if_pos (by simp [Region.wanted])]
    refine .inl ?_
    unfold Oper.wp
    have:(execOp (a.put (some t) v.den).eval ⟨none,.defer { callee:=.value (.tmp t),args:=#[],argTypes:=ats },ty2,p2,e2,none⟩).run P w = .ok (.defer { target:=.fn (.func g') (denL ys).toArray,args:=(denL first).toArray }) w:=by
      simp only [execOp,resolve,Sem.run_bind,h6,AV.den,Deferred.ofValue,Sem.run_pure,Result.andThen_ok]
      simp
    rw [this,Oper.upon_defer]
    exact ⟨_,sl',m,h5,h4,by show _::(a.put (some t) v.den).defers=_;rw [put_defers,hs.defers],hs.mem,hs.fr,hs.fresh⟩
  · exact h5.elim
@[irreducible] def NEnd (P:Program) (fn:Func) (ds:List Deferred) (u:FrameMode) (sl:List AV) (m:List Blk) (K:AV→List Blk→Prop):Prop :=
  ∀ (w0:World) (W Fo:Nat→Prop) (a:Act) (w:World),Sim w0 ⟨W,Fo,ds⟩ sl m a w→Leaves P fn a.tmps (fun e w'=>∃ r m',K r m'∧e = .returned r.den∧MemOk m' w'∧Fr W w0 w'∧Fresh ⟨W,Fo,[]⟩ w0 m') ds u w
@[irreducible] def NCallD (P:Program) (g:FuncId) (args:List AV) (m:List Blk) (u:FrameMode) (K:FrameMode→List Blk→Prop):Prop :=
  (∀ (us:Array Value) (w:World),(callFunc g us).run P w = .ok (.enter g us) w) ∧
  ∀ w,MemOk m w→CallsD P g (denL args).toArray u w fun e u' w'=>∃ m',K u' m'∧e = .returned (.tuple #[])∧MemOk m' w'∧Fr (wrs m) w w'∧Fresh (own m) w m'
theorem nend_nil {fn:Func} {sl:List AV} {m:List Blk} {K:AV→List Blk→Prop} (h:resK P m sl fn.results.toList fun xs=>retK xs fun r=>K r m):NEnd P fn [] .returning sl m K:=by
  unfold NEnd
  intro w0 W Fo a w hs
  obtain ⟨xs,h3,h4⟩:=results_spec hs.slots h
  exact ⟨_,h4 w hs.mem,_,_,retK_spec h3,rfl,hs.mem,hs.fr,hs.fresh⟩
theorem nend_one {fn:Func} {g:FuncId} {args first ys:List AV} {u:FrameMode} {sl:List AV} {m:List Blk} {K:AV→List Blk→Prop} (hu:u≠.run) (ha:args=first++ys)
    (h:NCallD P g args m u fun u' m'=>settle u' = .returning∧resK P m' sl fn.results.toList fun xs=>retK xs fun r=>K r m') :
    NEnd P fn [{ target:=.fn (.func g) (denL ys).toArray,args:=(denL first).toArray }] u sl m K:=by
  unfold NEnd
  unfold NCallD at h
  intro w0 W Fo a w hs
  subst ha
  refine leaves_cons (f:=g) (args:=(denL (first++ys)).toArray) hu ?_ ((h.2 w hs.mem).mono fun e u' w' hq=>?_)
  · simp only [invoke,h.1]
    simp [denL_append]
  · obtain ⟨m',⟨h1,h2⟩,rfl,h3,h4,h5⟩:=hq
    show Leaves P fn a.tmps _ [] (settle u') w'
    rw [h1]
    obtain ⟨xs,h6,h7⟩:=results_spec hs.slots h2
    have hfr:Fr W w0 w':=hs.fr.then h4 hs.fresh.1
    refine ⟨_,h7 w' h3,_,_,retK_spec h6,rfl,h3,hfr,⟨fun b hb=>?_,fun b hb=>?_⟩⟩
    · rcases h5.1 b hb with h | h
      · exact hs.fresh.1 b h
      · exact .inr (Nat.le_trans hs.fr.size h)
    · rcases h5.2 b hb with h | h
      · exact hs.fresh.2 b h
      · exact .inr (Nat.le_trans hs.fr.size h)
theorem ncall_defer {f : FuncId} {fn : Func} {c : Code} (hf : P.funcs[f]? = some fn) (hc : fn.body = some c) (hn : (fn.name == "runtime.NumGoroutine") = false) {args : List AV} {m : List Blk} {K : AV → List Blk → Prop}
    (h:argK args fn.ntmps fun sl=>NY P c [] sl m fun ds e sl m'=>match e with
      | .normal=>NEnd P fn ds .returning sl m' K
      | .ret=>NEnd P fn ds .returning sl m' K
      | .panic ch=>NEnd P fn ds (.panicking ch) sl m' K
      | _=>False):NCall P f args m K:=by
  rw [NCall_iff]
  refine ⟨enters_of hf (by rw [hc];rfl) hn,fun w hm=>?_⟩
  obtain ⟨hlen,h⟩:=argK_spec h
  have hsim:Sim w (own m) (args++List.replicate (fn.ntmps - args.length) .any) m { tmps:=(denL args).toArray++Array.replicate (fn.ntmps - (denL args).toArray.size) undef,defers:=[] } w :=
    ⟨args_ok hlen,rfl,hm,Fr.refl _ w,fun b hb=>.inl hb,fun b hb=>.inl hb⟩
  unfold NY at h
  refine calls_of_wp_defers hf hc (wp_mono (h w (wrs m) (foots m) _ w hsim) fun e a w' hq=>?_)
  obtain ⟨ds,sl',m',h1,h2⟩:=hq
  cases e with
  | normal =>
    dsimp only at h1
    unfold NEnd at h1
    have:=h1 w (wrs m) (foots m) a w' h2
    show Leaves P fn a.tmps _ a.defers .returning w'
    rw [h2.defers]
    exact this
  | ret =>
    dsimp only at h1
    unfold NEnd at h1
    have:=h1 w (wrs m) (foots m) a w' h2
    show Leaves P fn a.tmps _ a.defers .returning w'
    rw [h2.defers]
    exact this
  | panic ch =>
    dsimp only at h1
    unfold NEnd at h1
    have:=h1 w (wrs m) (foots m) a w' h2
    show Leaves P fn a.tmps _ a.defers (.panicking ch) w'
    rw [h2.defers]
    exact this
  | exit _=>exact h1.elim
  | goto _=>exact h1.elim
  | outgrown=>exact h1.elim
end
end Go.Sx
namespace Go.Sx
set_option linter.unusedVariables false
open Go.RowKit
section
variable {P:Program}
theorem ncallD_of {g:FuncId} {fn:Func} {id:Nat} {t7 t3:Tmp} {rest:Code} {ty1 ty2:TypeId} {p1 p2:String} {e1 e2:Array Edge} (hf:P.funcs[g]?=some fn)
    (hc:fn.body=some (.seq (.region id #[⟨some t7,.call { callee:=.builtin .recover,args:=#[],argTypes:=#[] },ty1,p1,e1,none⟩,⟨some t3,.assign (.tmp t7),ty2,p2,e2,none⟩] false) rest))
    (hn : (fn.name == "runtime.NumGoroutine") = false) (hres : fn.results.toList = []) {args : List AV} {m : List Blk} {u u' : FrameMode} {rv : AV} {K : FrameMode → List Blk → Prop}
    (hrec:∀ (c₀:Frame) (cs:List Frame),c₀.mode=u→(recoverD (c₀::cs)=some (rv.den,{ c₀ with mode:=u' }::cs))∨(recoverD (c₀::cs)=none∧rv.den = .nilIface∧u'=u))
    (h:argK args fn.ntmps fun sl=>dstK sl (some t7) rv fun sl1=>evK sl1 (.tmp t7) fun x=>dstK sl1 (some t3) x fun sl2=>codeX P rest sl2 m fun e _ m'=>(e = .normal∨e = .ret)∧K u' m'):NCallD P g args m u K:=by
  unfold NCallD
  refine ⟨enters_of hf (by rw [hc];rfl) hn,fun w hm=>?_⟩
  obtain ⟨hlen,h⟩:=argK_spec h
  refine callsD_of_wpS hf hc fun c₀ cs hu=>?_
  have hs0:SlotsOk (args++List.replicate (fn.ntmps - args.length) .any) ({ tmps:=(denL args).toArray++Array.replicate (fn.ntmps - (denL args).toArray.size) undef,defers:=[] }:Act).tmps:=args_ok hlen
  obtain ⟨sl1,h1,h2⟩:=dstK_spec h hs0
  obtain ⟨x,h3,h4⟩:=evK_spec h2 h1
  obtain ⟨sl2,h5,h6⟩:=dstK_spec h3 h2
  generalize hA:({ tmps:=(denL args).toArray++Array.replicate (fn.ntmps - (denL args).toArray.size) undef,defers:=[] }:Act)=A at *
  have hAd:A.defers=[]:=by rw [← hA]
  have hrest:∀ cs',cs'={ c₀ with mode:=u' }::cs→rest.wpS P (bodyPostS P fn c₀ cs fun e u' w'=>∃ m',K u' m'∧e = .returned (.tuple #[])∧MemOk m' w'∧Fr (wrs m) w w'∧Fresh (own m) w m') ((A.put (some t7) rv.den).put (some t3) x.den) cs' w:=fun cs' hcs=>by
    subst hcs
    have hsim:Sim w (own m) sl2 m ((A.put (some t7) rv.den).put (some t3) x.den) w:=⟨h6,by rw [put_defers,put_defers,hAd];rfl,hm,Fr.refl _ w,fun b hb=>.inl hb,fun b hb=>.inl hb⟩
    refine wpS_of_wp (wp_mono (codeX_sound h5 hsim) fun e a w' hq=>?_)
    obtain ⟨sl',m',g1,g2⟩:=hq
    obtain ⟨he,g3⟩:=g1
    have hk:resK P m' sl' fn.results.toList fun xs=>xs=[]:=by
      rw [hres]
      exact rfl
    obtain ⟨xs,rfl,g4⟩:=results_spec g2.slots hk
    rcases he with rfl | rfl
    iterate 2
      · exact ⟨g2.defers,u',rfl,_,g4 w' g2.mem,m',g3,rfl,g2.mem,g2.fr,g2.fresh⟩
  apply wpS_seq
  apply wpS_region
  show wpOpsS P _ _ [0,1] A (c₀::cs) w
  have er:(execOp A.eval ⟨some t7,.call { callee:=.builtin .recover,args:=#[],argTypes:=#[] },ty1,p1,e1,none⟩).run P w = .ok .recover w:=by
    simp [execOp,resolve,invoke,builtin]
  have ea:∀ v,(execOp (A.put (some t7) v).eval ⟨some t3,.assign (.tmp t7),ty2,p2,e2,none⟩).run P w = .ok (.value ((A.put (some t7) v).eval (.tmp t7))) w:=fun v=>rfl
  have w1:Region.wanted (⟨some t7,.call { callee:=.builtin .recover,args:=#[],argTypes:=#[] },ty1,p1,e1,none⟩:Oper)=fun _=>true:=by
    funext y
    simp [Region.wanted]
  have w2:Region.wanted (⟨some t3,.assign (.tmp t7),ty2,p2,e2,none⟩:Oper)=fun _=>true:=by
    funext y
    simp [Region.wanted]
  unfold wpOpsS
  simp only [List.getElem?_toArray,List.getElem?_cons_zero,w1,if_true,er]
  rcases hrec c₀ cs hu with hr | ⟨hr,hv,rfl⟩
  · rw [hr]
    dsimp only
    unfold wpOpsS
    simp only [List.getElem?_toArray,List.getElem?_cons_succ,List.getElem?_cons_zero,w2,if_true,ea,h4]
    rw [Oper.upon_value]
    exact hrest _ rfl
  · rw [hr]
    dsimp only
    unfold wpOpsS
    rw [← hv]
    simp only [List.getElem?_toArray,List.getElem?_cons_succ,List.getElem?_cons_zero,w2,if_true,ea,h4]
    rw [Oper.upon_value]
    refine hrest _ ?_
    rw [← hu]
theorem ncallD_by {g:FuncId} {fn:Func} {id:Nat} {t7 t3:Tmp} {rest:Code} {ty1 ty2:TypeId} {p1 p2:String} {e1 e2:Array Edge} (hf:P.funcs[g]?=some fn)
    (hc:fn.body=some (.seq (.region id #[⟨some t7,.call { callee:=.builtin .recover,args:=#[],argTypes:=#[] },ty1,p1,e1,none⟩,⟨some t3,.assign (.tmp t7),ty2,p2,e2,none⟩] false) rest))
    (hn : (fn.name == "runtime.NumGoroutine") = false) (hres : fn.results.toList = []) {args : List AV} {m : List Blk} {u u' : FrameMode} {rv : AV} {K : FrameMode → List Blk → Prop}
    (hrec:∀ (c₀:Frame) (cs:List Frame),c₀.mode=u→(recoverD (c₀::cs)=some (rv.den,{ c₀ with mode:=u' }::cs))∨(recoverD (c₀::cs)=none∧rv.den = .nilIface∧u'=u))
    (h:∀ Q:List AV→Prop,(∀ sl,codeX P rest sl m (fun e _ m'=>(e = .normal∨e = .ret)∧K u' m')→Q sl)→argK args fn.ntmps fun sl=>dstK sl (some t7) rv fun sl1=>evK sl1 (.tmp t7) fun x=>dstK sl1 (some t3) x Q):NCallD P g args m u K:=by
  exact ncallD_of hf hc hn hres hrec (h _ fun _ h=>h)
theorem NCallD.subw {g:FuncId} {args:List AV} {m:List Blk} {u:FrameMode} {K KL:FrameMode→List Blk→Prop} (idx:List Nat) (args':List AV) (mL:List Blk) (h:NCallD P g args' mL u KL) (hargs:denL args'=denL args)
    (hn:idx.Nodup) (hmL:idx.map (fun i=>m[i]?)=mL.map some)
    (hK:∀ u' bs,KL u' bs→idx.length≤bs.length∧repK m idx bs (K u')):NCallD P g args m u K:=by
  obtain ⟨h1,h2⟩:=sub_frame (mL:=mL) idx hn hmL
  unfold NCallD at h ⊢
  refine ⟨h.1,fun w hm=>?_⟩
  have h3:=(h.2 w (h1 w hm).1).mono (R':=fun e u' w'=>∃ m',K u' m'∧e = .returned (.tuple #[])∧MemOk m' w'∧Fr (wrs m) w w'∧Fresh (own m) w m') fun e u' w' hq=>by
    obtain ⟨bs,g1,rfl,g3,g4,g5⟩:=hq
    obtain ⟨g6,g7⟩:=hK u' bs g1
    obtain ⟨g8,g9⟩:=h2 bs g6 w w' hm g3 g4 g5
    exact ⟨_,repK_spec _ _ _ g7,rfl,g8,⟨g4.os,g4.tape,g4.output,g4.size,fun k hk hs=>g4.block k hk (fun ht=>hs ((h1 w hm).2 k ht))⟩,g9⟩
  rw [hargs] at h3
  exact h3
theorem ncall_deferred {f : FuncId} {fn : Func} {c : Code} (hf : P.funcs[f]? = some fn) (hc : fn.body = some c) (hn : (fn.name == "runtime.NumGoroutine") = false) {args : List AV} {m : List Blk} {K : AV → List Blk → Prop}
    (h:∀ Q:List AV→Prop,(∀ sl,NY P c [] sl m (fun ds e sl m'=>match e with
      | .normal=>NEnd P fn ds .returning sl m' K
      | .ret=>NEnd P fn ds .returning sl m' K
      | .panic ch=>NEnd P fn ds (.panicking ch) sl m' K
      | _=>False)→Q sl)→argK args fn.ntmps Q):NCall P f args m K:=ncall_defer hf hc hn (h _ fun _ h=>h)
end
end Go.Sx
namespace Go.Proofs.YtmehinfgdcmmjaaGreatDoor
open Go.Sx
set_option linter.unusedVariables false
namespace Lx
def isSp (c:UInt8):Bool:=c == 32||c == 9||c == 10
def isL (c:UInt8):Bool:=decide (97≤c.toNat)&&decide (c.toNat≤122)
def isD (c:UInt8):Bool:=decide (48≤c.toNat)&&decide (c.toNat≤57)
def isS (c:UInt8):Bool:=c == 40||c == 41||c == 59||c == 124||c == 61
def notNl (c:UInt8):Bool:=!(c == 10)
theorem tw_all {p:UInt8→Bool}:∀ {l:List UInt8} {x:UInt8},x∈l.takeWhile p→p x=true
  | [],_,h=>by simp at h
  | c::l,x,h=>by
    by_cases hc:p c=true
    · rw [List.takeWhile_cons_of_pos hc] at h
      rcases List.mem_cons.1 h with e | h
      · rw [e];exact hc
      · exact tw_all h
    · rw [List.takeWhile_cons_of_neg hc] at h;cases h
theorem tw_ext {p:UInt8→Bool}:∀ {a r:List UInt8},(∀ x∈a,p x=true)→(∀ c t,r=c::t→p c=false)→(a++r).takeWhile p=a∧(a++r).dropWhile p=r
  | [],[],_,_=>⟨rfl,rfl⟩
  | [],c::r,_,h=>by
    have:=h c r rfl
    constructor
    · rw [List.nil_append,List.takeWhile_cons_of_neg (by rw [this];decide)]
    · rw [List.nil_append,List.dropWhile_cons_of_neg (by rw [this];decide)]
  | x::a,r,h,h2=>by
    have hx:=h x (by simp)
    have ih:=tw_ext (a:=a) (r:=r) (fun y hy=>h y (List.mem_cons_of_mem _ hy)) h2
    constructor
    · rw [List.cons_append,List.takeWhile_cons_of_pos hx,ih.1]
    · rw [List.cons_append,List.dropWhile_cons_of_pos hx,ih.2]
theorem dw_head {p:UInt8→Bool}:∀ {l:List UInt8} {c:UInt8} {t:List UInt8},l.dropWhile p=c::t→p c=false
  | [],_,_,h=>by simp at h
  | x::l,c,t,h=>by
    by_cases hx:p x=true
    · rw [List.dropWhile_cons_of_pos hx] at h;exact dw_head h
    · rw [List.dropWhile_cons_of_neg hx] at h
      injection h with h1 _
      rw [← h1];simpa using hx
theorem dw_len {p:UInt8→Bool} (l:List UInt8):(l.dropWhile p).length≤l.length:=by
  have:=congrArg List.length (List.takeWhile_append_dropWhile (p:=p) (l:=l))
  simp only [List.length_append] at this
  omega
def skip (t:List UInt8):List UInt8 :=
  match h:t.dropWhile isSp with
  | []=>[]
  | c::r=>if c=35 then skip (r.dropWhile notNl) else c::r
termination_by t.length
decreasing_by
  have h1:=dw_len (p:=isSp) t
  have h2:=dw_len (p:=notNl) r
  rw [h] at h1
  simp only [List.length_cons] at h1
  omega
theorem skip_nil {t:List UInt8} (h:t.dropWhile isSp=[]):skip t=[]:=by
  rw [skip]
  split
  · rfl
  · rename_i e;rw [h] at e;cases e
theorem skip_cons {t r:List UInt8} {c:UInt8} (h:t.dropWhile isSp=c::r):skip t=if c=35 then skip (r.dropWhile notNl) else c::r:=by
  rw [skip]
  split
  · rename_i e;rw [h] at e;cases e
  · rename_i c' r' e
    rw [h] at e
    injection e with e1 e2
    rw [e1,e2]
theorem skip_len:∀ (n:Nat) (t:List UInt8),t.length≤n→(skip t).length≤t.length
  | 0,t,h=>by
    have:t=[]:=List.eq_nil_of_length_eq_zero (by omega)
    subst this
    rw [skip_nil rfl];exact Nat.le_refl _
  | n+1,t,h=>by
    have h1:=dw_len (p:=isSp) t
    cases hd:t.dropWhile isSp with
    | nil=>rw [skip_nil hd];simp
    | cons c r =>
      rw [hd] at h1
      simp only [List.length_cons] at h1
      rw [skip_cons hd]
      split
      · have h2:=dw_len (p:=notNl) r
        have:=skip_len n (r.dropWhile notNl) (by omega)
        omega
      · simp only [List.length_cons];omega
theorem skip_split:∀ (n:Nat) (t:List UInt8),t.length≤n→skip t≠[]→∃ b,t=b++skip t∧∀ y,(∀ c r,y=c::r→isSp c=false∨True)→skip (b++y)=skip y
  | 0,t,h,hne=>by
    have:t=[]:=List.eq_nil_of_length_eq_zero (by omega)
    subst this
    rw [skip_nil rfl] at hne
    exact (hne rfl).elim
  | n+1,t,h,hne=>by
    have ht:=List.takeWhile_append_dropWhile (p:=isSp) (l:=t)
    have hall:∀ x∈t.takeWhile isSp,isSp x=true:=fun x hx=>tw_all hx
    have h1:=dw_len (p:=isSp) t
    have key:∀ (a y:List UInt8),(∀ x∈a,isSp x=true)→skip (a++y)=skip y:=by
      intro a y ha
      have e:(a++y).dropWhile isSp=y.dropWhile isSp:=by
        induction a with
        | nil=>rfl
        | cons x a ih=>rw [List.cons_append,List.dropWhile_cons_of_pos (ha x (by simp))];exact ih fun z hz=>ha z (List.mem_cons_of_mem _ hz)
      cases hy:y.dropWhile isSp with
      | nil=>rw [skip_nil (e.trans hy),skip_nil hy]
      | cons c r=>rw [skip_cons (e.trans hy),skip_cons hy]
    cases hd:t.dropWhile isSp with
    | nil=>rw [skip_nil hd] at hne;exact (hne rfl).elim
    | cons c r =>
      rw [hd] at h1
      simp only [List.length_cons] at h1
      have hs:=skip_cons hd
      by_cases hc:c=35
      · rw [if_pos hc] at hs
        have h2:=dw_len (p:=notNl) r
        have hr:=List.takeWhile_append_dropWhile (p:=notNl) (l:=r)
        rw [hs] at hne
        cases hd2:r.dropWhile notNl with
        | nil =>
          rw [hd2,skip_nil rfl] at hne
          exact (hne rfl).elim
        | cons d r2 =>
          have hnl:d=10:=by
            have:=dw_head hd2
            unfold notNl at this
            simpa using this
          have h3:(r.dropWhile notNl).length≤n:=by omega
          obtain ⟨b,hb,hy⟩:=skip_split n (r.dropWhile notNl) h3 hne
          refine ⟨t.takeWhile isSp++(c::(r.takeWhile notNl++b)),?_,fun y hyy=>?_⟩
          · rw [hs,List.append_assoc,List.cons_append,List.append_assoc,← hb,hr,← hd,ht]
          · rw [List.append_assoc,key _ _ hall]
            have hbne:b≠[]∨skip (r.dropWhile notNl)=r.dropWhile notNl:=by
              by_cases e:b=[]
              · right;rw [e] at hb;exact hb.symm
              · exact .inl e
            have hsp:isSp d=true:=by rw [hnl];decide
            have hbn:b≠[]:=by
              rcases hbne with h | h
              · exact h
              · intro e
                have e2:skip (d::r2)=d::r2:=by rw [← hd2];exact h
                have e3:=key [d] r2 (fun x hx=>by rw [List.mem_singleton.1 hx];exact hsp)
                have e4:=skip_len r2.length r2 (Nat.le_refl _)
                have e5:(skip (d::r2)).length≤r2.length:=by
                  have:skip (d::r2)=skip r2:=e3
                  rw [this];exact e4
                rw [e2] at e5
                simp only [List.length_cons] at e5
                omega
            obtain ⟨b0,b1,rfl⟩:∃ b0 b1,b=b0::b1:=by
              cases b with
              | nil=>exact (hbn rfl).elim
              | cons b0 b1=>exact ⟨_,_,rfl⟩
            have hb0:b0=d:=by
              rw [hd2] at hb
              injection hb with e _
              exact e.symm
            have ew:(r.takeWhile notNl++(b0::b1)++y).dropWhile notNl=b0::b1++y:=by
              rw [List.append_assoc]
              refine (tw_ext (fun x hx=>tw_all hx) fun c' t' e=>?_).2
              rw [List.cons_append] at e
              injection e with e _
              rw [← e,hb0,hnl];decide
            have ed:(c::(r.takeWhile notNl++(b0::b1))++y).dropWhile isSp=c::(r.takeWhile notNl++(b0::b1)++y):=by
              rw [List.cons_append,List.dropWhile_cons_of_neg]
              rw [hc];decide
            rw [skip_cons ed,if_pos hc,ew]
            exact hy y hyy
      · rw [if_neg hc] at hs
        refine ⟨t.takeWhile isSp,?_,fun y _=>key _ _ hall⟩
        rw [hs,← hd,ht]
structure B where
  k:Int
  n:Int
  s:List UInt8
def num (d:List UInt8):Nat:=d.foldl (fun n c=>10*n+(c.toNat - 48)) 0
def nextB:List UInt8→Option (B × Nat)
  | []=>none
  | c::r =>
    if isL c=true then some (⟨1,0,(c::r).takeWhile isL⟩,((c::r).takeWhile isL).length)
    else if isD c=true then
      (if 3<((c::r).takeWhile isD).length∨(1<((c::r).takeWhile isD).length∧c=48) then none
       else some (⟨2,num ((c::r).takeWhile isD),[]⟩,((c::r).takeWhile isD).length))
    else if c=58∧r.head?=some 61 then some (⟨3,0,[58,61]⟩,2)
    else if isS c=true then some (⟨3,0,[c]⟩,1)
    else none
theorem nextB_eq (c:UInt8) (r:List UInt8):nextB (c::r) =
    if isL c=true then some (⟨1,0,(c::r).takeWhile isL⟩,((c::r).takeWhile isL).length)
    else if isD c=true then
      (if 3<((c::r).takeWhile isD).length∨(1<((c::r).takeWhile isD).length∧c=48) then none
       else some (⟨2,num ((c::r).takeWhile isD),[]⟩,((c::r).takeWhile isD).length))
    else if c=58∧r.head?=some 61 then some (⟨3,0,[58,61]⟩,2)
    else if isS c=true then some (⟨3,0,[c]⟩,1)
    else none:=rfl
theorem tw_take (p:UInt8→Bool) (l:List UInt8):l.take (l.takeWhile p).length=l.takeWhile p∧l.drop (l.takeWhile p).length=l.dropWhile p:=by
  have ht:=List.takeWhile_append_dropWhile (p:=p) (l:=l)
  have h1:=List.take_left (l₁:=l.takeWhile p) (l₂:=l.dropWhile p)
  have h2:=List.drop_left (l₁:=l.takeWhile p) (l₂:=l.dropWhile p)
  rw [ht] at h1 h2
  exact ⟨h1,h2⟩
theorem nextB_pos {t:List UInt8} {b:B} {n:Nat} (h:nextB t=some (b,n)):1≤n∧n≤t.length:=by
  cases t with
  | nil=>cases h
  | cons c r =>
    rw [nextB_eq] at h
    have hl:∀ p:UInt8→Bool,((c::r).takeWhile p).length≤(c::r).length:=fun p=>by
      have:=congrArg List.length (List.takeWhile_append_dropWhile (p:=p) (l:=c::r))
      simp only [List.length_append] at this
      omega
    split at h
    · rename_i hc
      injection h with h;injection h with _ h
      have:=hl isL
      rw [← h]
      refine ⟨?_,this⟩
      rw [List.takeWhile_cons_of_pos hc];simp
    split at h
    · rename_i hc
      split at h
      · cases h
      injection h with h;injection h with _ h
      have:=hl isD
      rw [← h]
      refine ⟨?_,this⟩
      rw [List.takeWhile_cons_of_pos hc];simp
    split at h
    · rename_i hc
      injection h with h;injection h with _ h
      rw [← h]
      cases r with
      | nil=>simp at hc
      | cons d r=>simp
    split at h
    · injection h with h;injection h with _ h
      rw [← h];simp
    · cases h
def toks (t:List UInt8):Option (List (B × List UInt8)) :=
  match h:skip t with
  | []=>some []
  | c::r =>
    match h2:nextB (c::r) with
    | none=>none
    | some (b,n)=>(toks ((c::r).drop n)).map ((b,c::r)::·)
termination_by t.length
decreasing_by
  have h1:=skip_len t.length t (Nat.le_refl _)
  rw [h] at h1
  have h3:=nextB_pos h2
  rw [List.length_drop]
  simp only [List.length_cons] at *
  omega
theorem toks_nil {t:List UInt8} (h:skip t=[]):toks t=some []:=by
  rw [toks]
  split
  · rfl
  · rename_i e;rw [h] at e;cases e
theorem toks_none {t:List UInt8} (h:skip t≠[]) (h2:nextB (skip t)=none):toks t=none:=by
  rw [toks]
  split
  · rename_i e;exact (h e).elim
  · rename_i c r e
    split
    · rfl
    · rename_i b n e2
      rw [e] at h2
      rw [h2] at e2;cases e2
theorem toks_cons {t:List UInt8} {b:B} {n:Nat} (h:skip t≠[]) (h2:nextB (skip t)=some (b,n)):toks t=(toks ((skip t).drop n)).map ((b,skip t)::·):=by
  rw [toks]
  split
  · rename_i e;exact (h e).elim
  · rename_i c r e
    split
    · rename_i e2
      rw [e] at h2
      rw [h2] at e2;cases e2
    · rename_i b' n' e2
      rw [e] at h2 ⊢
      rw [h2] at e2
      injection e2 with e2
      injection e2 with e3 e4
      subst e3 e4
      rfl
theorem skip_id {c:UInt8} {r:List UInt8} (h:isSp c=false) (h2:c≠35):skip (c::r)=c::r:=by
  have e:(c::r).dropWhile isSp=c::r:=List.dropWhile_cons_of_neg (by rw [h];decide)
  rw [skip_cons e,if_neg h2]
theorem toks_skip {t y:List UInt8} (h:skip t=skip y):toks t=toks y:=by
  by_cases hn:skip y=[]
  · rw [toks_nil hn,toks_nil (h.trans hn)]
  · cases h2:nextB (skip y) with
    | none=>rw [toks_none hn h2,toks_none (by rw [h];exact hn) (by rw [h];exact h2)]
    | some q =>
      obtain ⟨b,n⟩:=q
      rw [toks_cons hn h2,toks_cons (by rw [h];exact hn) (by rw [h];exact h2),h]
end Lx
end Go.Proofs.YtmehinfgdcmmjaaGreatDoor
namespace Go.Proofs.YtmehinfgdcmmjaaGreatDoor
open Go.Sx
set_option maxRecDepth 20000
set_option linter.unusedVariables false
namespace Ps
inductive R (α:Type) where
  | ok (x:α) (n:Nat)
  | bad (n:Nat)
def tk (l:List Lx.B) (i:Nat):Lx.B:=l[i]?.getD ⟨4,0,[]⟩
def is (l:List Lx.B) (i:Nat) (s:List UInt8):Bool:=(decide ((tk l i).k=1)||decide ((tk l i).k=3))&&decide ((tk l i).s=s)
def more {α:Type} (l:List Lx.B) (b:List UInt8) (one:Nat→R α):Nat→List α→Nat→R (List α)
  | 0,_,i=>.bad i
  | n+1,acc,i=>if is l i b=true then match one (i+1) with
      | .ok x j=>more l b one n (acc++[x]) j
      | .bad j=>.bad j
    else .ok acc i
def chain {α:Type} (l:List Lx.B) (b:List UInt8) (one:Nat→R α) (i:Nat):R (List α):=match one i with
  | .ok x j=>more l b one (l.length+1 - j) [x] j
  | .bad j=>.bad j
def wrap {α:Type} (f:List α→α):R (List α)→R α
  | .ok [x] j=>.ok x j
  | .ok xs j=>.ok (f xs) j
  | .bad j=>.bad j
def wTrue:List UInt8:=[116,114,117,101]
def wFalse:List UInt8:=[102,97,108,115,101]
def wNot:List UInt8:=[110,111,116]
def wOpen:List UInt8:=[40]
def wShut:List UInt8:=[41]
def wAnd:List UInt8:=[97,110,100]
def wOr:List UInt8:=[111,114]
def wEq:List UInt8:=[61]
def wSet:List UInt8:=[58,61]
def wDrop:List UInt8:=[100,114,111,112]
def wId:List UInt8:=[105,100]
def wWhen:List UInt8:=[119,104,101,110]
def wIf:List UInt8:=[105,102]
def wThen:List UInt8:=[116,104,101,110]
def wElse:List UInt8:=[101,108,115,101]
def wSemi:List UInt8:=[59]
def wBar:List UInt8:=[124]
def words:List (List UInt8):=[[115,114,99],[100,115,116],[107,105,110,100],[116,97,103],[112,111,114,116],[115,119,105,116,99,104]]
def field (l:List Lx.B) (i many:Nat):Option Nat:=if (tk l i).k=1 then (words.take many).findIdx? (fun w=>decide (w=(tk l i).s)) else none
def assign (l:List Lx.B) (many:Nat) (sign:List UInt8) (i:Nat):R (Int × Int):=match field l i many with
  | none=>.bad i
  | some f=>if is l (i+1) sign=true then (if (tk l (i+2)).k=2 then .ok ((f:Int),(tk l (i+2)).n) (i+3) else .bad (i+2)) else .bad (i+1)
def group (l:List Lx.B) (part:Nat→R Pd.T) (i:Nat):R Pd.T:=wrap (fun xs=>.mk 5 0 0 xs) (chain l wAnd part i)
def cond (l:List Lx.B) (part:Nat→R Pd.T) (i:Nat):R Pd.T:=wrap (fun xs=>.mk 6 0 0 xs) (chain l wOr (group l part) i)
def shut {α:Type} (l:List Lx.B):R α→R α
  | .ok x j=>if is l j wShut=true then .ok x (j+1) else .bad j
  | .bad j=>.bad j
def part (l:List Lx.B):Nat→Nat→R Pd.T
  | 0,i=>.bad i
  | n+1,i =>
    if is l i wTrue=true then .ok (.mk 1 0 0 []) (i+1)
    else if is l i wFalse=true then .ok (.mk 2 0 0 []) (i+1)
    else if is l i wNot=true then match part l n (i+1) with
      | .ok x j=>.ok (.mk 4 0 0 [x]) j
      | .bad j=>.bad j
    else if is l i wOpen=true then shut l (cond l (part l n) (i+1))
    else match assign l 6 wEq i with
      | .ok (f,v) j=>.ok (.mk 3 f v []) j
      | .bad j=>.bad j
def none26:Pd.T:=.mk 0 0 0 []
def row (l:List Lx.B) (step:Nat→R Po.T) (i:Nat):R Po.T:=wrap (fun xs=>.mk 3 none26 0 0 xs) (chain l wSemi step i)
def rows (l:List Lx.B) (step:Nat→R Po.T) (i:Nat):R Po.T:=wrap (fun xs=>.mk 4 none26 0 0 xs) (chain l wBar (row l step) i)
def choice (l:List Lx.B) (cnd:Nat→R Pd.T) (step:Nat→R Po.T) (i:Nat):R Po.T:=match cnd i with
  | .bad j=>.bad j
  | .ok c j=>if is l j wThen=true then match step (j+1) with
      | .bad j=>.bad j
      | .ok a j=>if is l j wElse=true then match step (j+1) with
          | .bad j=>.bad j
          | .ok b j=>.ok (.mk 5 c 0 0 [a,b]) j
        else .bad j
    else .bad j
def step (l:List Lx.B):Nat→Nat→R Po.T
  | 0,i=>.bad i
  | n+1,i =>
    if is l i wDrop=true then .ok (.mk 1 (.mk 2 0 0 []) 0 0 []) (i+1)
    else if is l i wId=true then .ok (.mk 1 (.mk 1 0 0 []) 0 0 []) (i+1)
    else if is l i wWhen=true then match cond l (part l l.length) (i+1) with
      | .ok c j=>.ok (.mk 1 c 0 0 []) j
      | .bad j=>.bad j
    else if is l i wIf=true then choice l (cond l (part l l.length)) (step l n) (i+1)
    else if is l i wOpen=true then shut l (rows l (step l n) (i+1))
    else match assign l 5 wSet i with
      | .ok (f,v) j=>.ok (.mk 2 none26 f v []) j
      | .bad j=>.bad j
def whole {α:Type} (l:List Lx.B):R α→R α
  | .ok x j=>if (tk l j).k=4 then .ok x 0 else .bad j
  | .bad j=>.bad j
end Ps
end Go.Proofs.YtmehinfgdcmmjaaGreatDoor
