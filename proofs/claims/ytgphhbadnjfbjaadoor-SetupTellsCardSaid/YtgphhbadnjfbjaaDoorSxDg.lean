import Derived.Test.YtgphhbadnjfbjaaDoorSxDf
namespace Go.Sx
set_option linter.unusedVariables false
open Go.RowKit
section
variable {P:Program}
theorem ncallD_of {g:FuncId} {fn:Func} {id:Nat} {t7 t3:Tmp} {rest:Code} {ty1 ty2:TypeId} {p1 p2:String} {e1 e2:Array Edge} (hf:P.funcs[g]?=some fn)
    (hc:fn.body=some (.seq (.region id #[⟨some t7,.call { callee:=.builtin .recover,args:=#[],argTypes:=#[] },ty1,p1,e1,none⟩,⟨some t3,.assign (.tmp t7),ty2,p2,e2,none⟩] false) rest))
    (hn : (fn.name == "runtime.NumGoroutine") = false) (hres : fn.results.toList = []) {args : List AV} {m : List Blk} {u u' : FrameMode} {rv : AV} {K : FrameMode → List Blk → Prop}
    (hrec:∀ (c₀:Frame) (cs:List Frame),c₀.mode=u→(recoverD (c₀::cs)=some (rv.den,{ c₀ with mode:=u' }::cs))∨(recoverD (c₀::cs)=none∧rv.den = .nilIface∧u'=u))
    (h:argK args fn.ntmps fun sl=>dstK sl (some t7) rv fun sl1=>evK sl1 (.tmp t7) fun x=>dstK sl1 (some t3) x fun sl2=>codeX P rest sl2 m fun e _ m'=>(e = .normal∨e = .ret)∧K u' m'):NCallD P g args m u K:=by
  unfold NCallD
  refine ⟨enters_of hf (by rw [hc];rfl) hn,fun w hm=>?_⟩
  obtain ⟨hlen,h⟩:=argK_spec h
  refine callsD_of_wpS hf hc fun c₀ cs hu=>?_
  have hs0:SlotsOk (args++List.replicate (fn.ntmps - args.length) .any) ({ tmps:=(denL args).toArray++Array.replicate (fn.ntmps - (denL args).toArray.size) undef,defers:=[] }:Act).tmps:=args_ok hlen
  obtain ⟨sl1,h1,h2⟩:=dstK_spec h hs0
  obtain ⟨x,h3,h4⟩:=evK_spec h2 h1
  obtain ⟨sl2,h5,h6⟩:=dstK_spec h3 h2
  generalize hA:({ tmps:=(denL args).toArray++Array.replicate (fn.ntmps - (denL args).toArray.size) undef,defers:=[] }:Act)=A at *
  have hAd:A.defers=[]:=by rw [← hA]
  have hrest:∀ cs',cs'={ c₀ with mode:=u' }::cs→rest.wpS P (bodyPostS P fn c₀ cs fun e u' w'=>∃ m',K u' m'∧e = .returned (.tuple #[])∧MemOk m' w'∧Fr (wrs m) w w'∧Fresh (own m) w m') ((A.put (some t7) rv.den).put (some t3) x.den) cs' w:=fun cs' hcs=>by
    subst hcs
    have hsim:Sim w (own m) sl2 m ((A.put (some t7) rv.den).put (some t3) x.den) w:=⟨h6,by rw [put_defers,put_defers,hAd];rfl,hm,Fr.refl _ w,fun b hb=>.inl hb,fun b hb=>.inl hb⟩
    refine wpS_of_wp (wp_mono (codeX_sound h5 hsim) fun e a w' hq=>?_)
    obtain ⟨sl',m',g1,g2⟩:=hq
    obtain ⟨he,g3⟩:=g1
    have hk:resK P m' sl' fn.results.toList fun xs=>xs=[]:=by
      rw [hres]
      exact rfl
    obtain ⟨xs,rfl,g4⟩:=results_spec g2.slots hk
    rcases he with rfl | rfl
    · exact ⟨g2.defers,u',rfl,_,g4 w' g2.mem,m',g3,rfl,g2.mem,g2.fr,g2.fresh⟩
    · exact ⟨g2.defers,u',rfl,_,g4 w' g2.mem,m',g3,rfl,g2.mem,g2.fr,g2.fresh⟩
  apply wpS_seq
  apply wpS_region
  show wpOpsS P _ _ [0,1] A (c₀::cs) w
  have er:(execOp A.eval ⟨some t7,.call { callee:=.builtin .recover,args:=#[],argTypes:=#[] },ty1,p1,e1,none⟩).run P w = .ok .recover w:=by
    simp [execOp,resolve,invoke,builtin]
  have ea:∀ v,(execOp (A.put (some t7) v).eval ⟨some t3,.assign (.tmp t7),ty2,p2,e2,none⟩).run P w = .ok (.value ((A.put (some t7) v).eval (.tmp t7))) w:=fun v=>rfl
  have w1:Region.wanted (⟨some t7,.call { callee:=.builtin .recover,args:=#[],argTypes:=#[] },ty1,p1,e1,none⟩:Oper)=fun _=>true:=by
    funext y
    simp [Region.wanted]
  have w2:Region.wanted (⟨some t3,.assign (.tmp t7),ty2,p2,e2,none⟩:Oper)=fun _=>true:=by
    funext y
    simp [Region.wanted]
  unfold wpOpsS
  simp only [List.getElem?_toArray,List.getElem?_cons_zero,w1,if_true,er]
  rcases hrec c₀ cs hu with hr | ⟨hr,hv,rfl⟩
  · rw [hr]
    dsimp only
    unfold wpOpsS
    simp only [List.getElem?_toArray,List.getElem?_cons_succ,List.getElem?_cons_zero,w2,if_true,ea,h4]
    rw [Oper.upon_value]
    exact hrest _ rfl
  · rw [hr]
    dsimp only
    unfold wpOpsS
    rw [← hv]
    simp only [List.getElem?_toArray,List.getElem?_cons_succ,List.getElem?_cons_zero,w2,if_true,ea,h4]
    rw [Oper.upon_value]
    refine hrest _ ?_
    rw [← hu]
theorem ncallD_by {g:FuncId} {fn:Func} {id:Nat} {t7 t3:Tmp} {rest:Code} {ty1 ty2:TypeId} {p1 p2:String} {e1 e2:Array Edge} (hf:P.funcs[g]?=some fn)
    (hc:fn.body=some (.seq (.region id #[⟨some t7,.call { callee:=.builtin .recover,args:=#[],argTypes:=#[] },ty1,p1,e1,none⟩,⟨some t3,.assign (.tmp t7),ty2,p2,e2,none⟩] false) rest))
    (hn : (fn.name == "runtime.NumGoroutine") = false) (hres : fn.results.toList = []) {args : List AV} {m : List Blk} {u u' : FrameMode} {rv : AV} {K : FrameMode → List Blk → Prop}
    (hrec:∀ (c₀:Frame) (cs:List Frame),c₀.mode=u→(recoverD (c₀::cs)=some (rv.den,{ c₀ with mode:=u' }::cs))∨(recoverD (c₀::cs)=none∧rv.den = .nilIface∧u'=u))
    (h:∀ Q:List AV→Prop,(∀ sl,codeX P rest sl m (fun e _ m'=>(e = .normal∨e = .ret)∧K u' m')→Q sl)→argK args fn.ntmps fun sl=>dstK sl (some t7) rv fun sl1=>evK sl1 (.tmp t7) fun x=>dstK sl1 (some t3) x Q):NCallD P g args m u K:=by
  exact ncallD_of hf hc hn hres hrec (h _ fun _ h=>h)
theorem NCallD.subw {g:FuncId} {args:List AV} {m:List Blk} {u:FrameMode} {K KL:FrameMode→List Blk→Prop} (idx:List Nat) (args':List AV) (mL:List Blk) (h:NCallD P g args' mL u KL) (hargs:denL args'=denL args)
    (hn:idx.Nodup) (hmL:idx.map (fun i=>m[i]?)=mL.map some)
    (hK:∀ u' bs,KL u' bs→idx.length≤bs.length∧repK m idx bs (K u')):NCallD P g args m u K:=by
  obtain ⟨h1,h2⟩:=sub_frame (mL:=mL) idx hn hmL
  unfold NCallD at h ⊢
  refine ⟨h.1,fun w hm=>?_⟩
  have h3:=(h.2 w (h1 w hm).1).mono (R':=fun e u' w'=>∃ m',K u' m'∧e = .returned (.tuple #[])∧MemOk m' w'∧Fr (wrs m) w w'∧Fresh (own m) w m') fun e u' w' hq=>by
    obtain ⟨bs,g1,rfl,g3,g4,g5⟩:=hq
    obtain ⟨g6,g7⟩:=hK u' bs g1
    obtain ⟨g8,g9⟩:=h2 bs g6 w w' hm g3 g4 g5
    exact ⟨_,repK_spec _ _ _ g7,rfl,g8,⟨g4.os,g4.tape,g4.output,g4.size,fun k hk hs=>g4.block k hk (fun ht=>hs ((h1 w hm).2 k ht))⟩,g9⟩
  rw [hargs] at h3
  exact h3
theorem ncall_deferred {f : FuncId} {fn : Func} {c : Code} (hf : P.funcs[f]? = some fn) (hc : fn.body = some c) (hn : (fn.name == "runtime.NumGoroutine") = false) {args : List AV} {m : List Blk} {K : AV → List Blk → Prop}
    (h:∀ Q:List AV→Prop,(∀ sl,NY P c [] sl m (fun ds e sl m'=>match e with
      | .normal=>NEnd P fn ds .returning sl m' K
      | .ret=>NEnd P fn ds .returning sl m' K
      | .panic ch=>NEnd P fn ds (.panicking ch) sl m' K
      | _=>False)→Q sl)→argK args fn.ntmps Q):NCall P f args m K:=ncall_defer hf hc hn (h _ fun _ h=>h)
end
end Go.Sx
