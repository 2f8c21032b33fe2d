import Derived.Test.YtgphhbadnjfbjaaDoorSxX
import Derived.Defers
import Derived.Recover
namespace Go.Sx
set_option linter.unusedVariables false
open Go.RowKit
section
variable {P:Program}
@[irreducible] def NY (P:Program) (c:Code) (ds:List Deferred) (sl:List AV) (m:List Blk) (R:List Deferred→Post):Prop :=
  ∀ (w0:World) (W Fo:Nat→Prop) (a:Act) (w:World),Sim w0 ⟨W,Fo,ds⟩ sl m a w→c.wp P (fun e a w=>∃ ds' sl m,R ds' e sl m∧Sim w0 ⟨W,Fo,ds'⟩ sl m a w) a w
theorem ny_seq {x y:Code} {ds:List Deferred} {sl:List AV} {m:List Blk} {R:List Deferred→Post} (h:NY P x ds sl m fun ds' e sl m=>match e with
    | .normal=>NY P y ds' sl m R
    | e=>R ds' e sl m):NY P (.seq x y) ds sl m R:=by
  unfold NY at h ⊢
  intro w0 W Fo a w hs
  refine wp_seq (wp_mono (h w0 W Fo a w hs) fun e a w hq=>?_)
  obtain ⟨ds',sl',m',h1,h2⟩:=hq
  cases e with
  | normal =>
    exact h1 w0 W Fo a w h2
  | _=>exact ⟨ds',sl',m',h1,h2⟩
theorem ny_X {c:Code} {ds:List Deferred} {sl:List AV} {m:List Blk} {R:List Deferred→Post} (h:codeX P c sl m (R ds)):NY P c ds sl m R:=by
  unfold NY
  intro w0 W Fo a w hs
  refine wp_mono (codeX_sound h hs) fun e a w hq=>?_
  obtain ⟨sl',m',h1,h2⟩:=hq
  exact ⟨ds,sl',m',h1,h2⟩
theorem ny_defer {id:Nat} {t:Tmp} {g:FuncId} {caps:Array Operand} {ty1 ty2:TypeId} {p1 p2:String} {e1 e2:Array Edge} {ats:Array TypeId} {ds:List Deferred} {sl:List AV} {m:List Blk} {R:List Deferred→Post}
    (h:evLK sl caps.toList fun xs=>dstK sl (some t) (.fn g [] xs) fun sl'=>evK sl' (.tmp t) fun f=>match f with
      | .fn g first ys=>R ({ target:=.fn (.func g) (denL ys).toArray,args:=(denL first).toArray }::ds) .normal sl' m
      | _=>False) :
    NY P (.region id #[⟨some t,.makeFunc (.func g) #[] caps,ty1,p1,e1,none⟩,⟨none,.defer { callee:=.value (.tmp t),args:=#[],argTypes:=ats },ty2,p2,e2,none⟩] false) ds sl m R:=by
  unfold NY
  intro w0 W Fo a w hs
  obtain ⟨v,h1,h2⟩:=opV_spec (P:=P) (m:=m) (op:=.makeFunc (.func g) #[] caps) (K:=fun v=>dstK sl (some t) v fun sl'=>evK sl' (.tmp t) fun f=>match f with
      | .fn g first ys=>R ({ target:=.fn (.func g) (denL ys).toArray,args:=(denL first).toArray }::ds) .normal sl' m
      | _=>False) hs.slots h
  obtain ⟨sl',h3,h4⟩:=dstK_spec h1 hs.slots
  obtain ⟨f,h5,h6⟩:=evK_spec h4 h3
  split at h5
  · rename_i g' first ys
    refine wp_region_list ?_
    show wpList P _ _ [_,_] a w
    unfold wpList
    rw [if_pos (by simp [Region.wanted])]
    refine .inl ?_
    unfold Oper.wp
    rw [h2 w hs.mem _ rfl,Oper.upon_value]
    unfold wpList
    rw [if_pos (by simp [Region.wanted])]
    refine .inl ?_
    unfold Oper.wp
    have:(execOp (a.put (some t) v.den).eval ⟨none,.defer { callee:=.value (.tmp t),args:=#[],argTypes:=ats },ty2,p2,e2,none⟩).run P w = .ok (.defer { target:=.fn (.func g') (denL ys).toArray,args:=(denL first).toArray }) w:=by
      simp only [execOp,resolve,Sem.run_bind,h6,AV.den,Deferred.ofValue,Sem.run_pure,Result.andThen_ok]
      simp
    rw [this,Oper.upon_defer]
    exact ⟨_,sl',m,h5,h4,by show _::(a.put (some t) v.den).defers=_;rw [put_defers,hs.defers],hs.mem,hs.fr,hs.fresh⟩
  · exact h5.elim
@[irreducible] def NEnd (P:Program) (fn:Func) (ds:List Deferred) (u:FrameMode) (sl:List AV) (m:List Blk) (K:AV→List Blk→Prop):Prop :=
  ∀ (w0:World) (W Fo:Nat→Prop) (a:Act) (w:World),Sim w0 ⟨W,Fo,ds⟩ sl m a w→Leaves P fn a.tmps (fun e w'=>∃ r m',K r m'∧e = .returned r.den∧MemOk m' w'∧Fr W w0 w'∧Fresh ⟨W,Fo,[]⟩ w0 m') ds u w
@[irreducible] def NCallD (P:Program) (g:FuncId) (args:List AV) (m:List Blk) (u:FrameMode) (K:FrameMode→List Blk→Prop):Prop :=
  (∀ (us:Array Value) (w:World),(callFunc g us).run P w = .ok (.enter g us) w) ∧
  ∀ w,MemOk m w→CallsD P g (denL args).toArray u w fun e u' w'=>∃ m',K u' m'∧e = .returned (.tuple #[])∧MemOk m' w'∧Fr (wrs m) w w'∧Fresh (own m) w m'
theorem nend_one {fn:Func} {g:FuncId} {args first ys:List AV} {u:FrameMode} {sl:List AV} {m:List Blk} {K:AV→List Blk→Prop} (hu:u≠.run) (ha:args=first++ys)
    (h:NCallD P g args m u fun u' m'=>settle u' = .returning∧resK P m' sl fn.results.toList fun xs=>retK xs fun r=>K r m') :
    NEnd P fn [{ target:=.fn (.func g) (denL ys).toArray,args:=(denL first).toArray }] u sl m K:=by
  unfold NEnd
  unfold NCallD at h
  intro w0 W Fo a w hs
  subst ha
  refine leaves_cons (f:=g) (args:=(denL (first++ys)).toArray) hu ?_ ((h.2 w hs.mem).mono fun e u' w' hq=>?_)
  · simp only [invoke,h.1]
    simp [denL_append]
  · obtain ⟨m',⟨h1,h2⟩,rfl,h3,h4,h5⟩:=hq
    show Leaves P fn a.tmps _ [] (settle u') w'
    rw [h1]
    obtain ⟨xs,h6,h7⟩:=results_spec hs.slots h2
    have hfr:Fr W w0 w':=hs.fr.then h4 hs.fresh.1
    refine ⟨_,h7 w' h3,_,_,retK_spec h6,rfl,h3,hfr,⟨fun b hb=>?_,fun b hb=>?_⟩⟩
    · rcases h5.1 b hb with h | h
      · exact hs.fresh.1 b h
      · exact .inr (Nat.le_trans hs.fr.size h)
    · rcases h5.2 b hb with h | h
      · exact hs.fresh.2 b h
      · exact .inr (Nat.le_trans hs.fr.size h)
theorem ncall_defer {f : FuncId} {fn : Func} {c : Code} (hf : P.funcs[f]? = some fn) (hc : fn.body = some c) (hn : (fn.name == "runtime.NumGoroutine") = false) {args : List AV} {m : List Blk} {K : AV → List Blk → Prop}
    (h:argK args fn.ntmps fun sl=>NY P c [] sl m fun ds e sl m'=>match e with
      | .normal=>NEnd P fn ds .returning sl m' K
      | .ret=>NEnd P fn ds .returning sl m' K
      | .panic ch=>NEnd P fn ds (.panicking ch) sl m' K
      | _=>False):NCall P f args m K:=by
  rw [NCall_iff]
  refine ⟨enters_of hf (by rw [hc];rfl) hn,fun w hm=>?_⟩
  obtain ⟨hlen,h⟩:=argK_spec h
  have hsim:Sim w (own m) (args++List.replicate (fn.ntmps - args.length) .any) m { tmps:=(denL args).toArray++Array.replicate (fn.ntmps - (denL args).toArray.size) undef,defers:=[] } w :=
    ⟨args_ok hlen,rfl,hm,Fr.refl _ w,fun b hb=>.inl hb,fun b hb=>.inl hb⟩
  unfold NY at h
  refine calls_of_wp_defers hf hc (wp_mono (h w (wrs m) (foots m) _ w hsim) fun e a w' hq=>?_)
  obtain ⟨ds,sl',m',h1,h2⟩:=hq
  cases e with
  | normal =>
    dsimp only at h1
    unfold NEnd at h1
    have:=h1 w (wrs m) (foots m) a w' h2
    show Leaves P fn a.tmps _ a.defers .returning w'
    rw [h2.defers]
    exact this
  | ret =>
    dsimp only at h1
    unfold NEnd at h1
    have:=h1 w (wrs m) (foots m) a w' h2
    show Leaves P fn a.tmps _ a.defers .returning w'
    rw [h2.defers]
    exact this
  | panic ch =>
    dsimp only at h1
    unfold NEnd at h1
    have:=h1 w (wrs m) (foots m) a w' h2
    show Leaves P fn a.tmps _ a.defers (.panicking ch) w'
    rw [h2.defers]
    exact this
  | exit _=>exact h1.elim
  | goto _=>exact h1.elim
  | outgrown=>exact h1.elim
end
end Go.Sx
