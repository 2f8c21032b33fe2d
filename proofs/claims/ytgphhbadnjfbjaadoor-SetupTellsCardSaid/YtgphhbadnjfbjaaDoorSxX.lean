import Derived.Lib.ConvBytes
import Derived.Test.YtgphhbadnjfbjaaDoorSxC
import Derived.WideLaws
namespace Go.Sx
set_option linter.unusedVariables false
open Go.RowKit
@[irreducible] def NCallX (P:Program) (f:FuncId) (args:List AV) (m:List Blk) (K:AV→List Blk→Prop) (Kp:List PanicEntry→List Blk→Prop):Prop :=
  (∀ (us:Array Value) (w:World),(callFunc f us).run P w = .ok (.enter f us) w) ∧
  ∀ w,MemOk m w→Calls P f (denL args).toArray w fun e w'=>(∃ r m',K r m'∧e = .returned r.den∧MemOk m' w'∧Fr (wrs m) w w'∧Fresh (own m) w m') ∨
    ∃ ch m',Kp ch m'∧e = .panicked ch∧MemOk m' w'∧Fr (wrs m) w w'∧Fresh (own m) w m'
theorem NCallX_iff {P:Program} {f:FuncId} {args:List AV} {m:List Blk} {K:AV→List Blk→Prop} {Kp:List PanicEntry→List Blk→Prop}:NCallX P f args m K Kp ↔
  ((∀ (us:Array Value) (w:World),(callFunc f us).run P w = .ok (.enter f us) w) ∧
  ∀ w,MemOk m w→Calls P f (denL args).toArray w fun e w'=>(∃ r m',K r m'∧e = .returned r.den∧MemOk m' w'∧Fr (wrs m) w w'∧Fresh (own m) w m') ∨
    ∃ ch m',Kp ch m'∧e = .panicked ch∧MemOk m' w'∧Fr (wrs m) w w'∧Fresh (own m) w m'):=by unfold NCallX;exact Iff.rfl
theorem NCallX.of {P:Program} {f:FuncId} {args:List AV} {m:List Blk} {K:AV→List Blk→Prop} {Kp:List PanicEntry→List Blk→Prop} (h:NCall P f args m K):NCallX P f args m K Kp:=by
  rw [NCall_iff] at h
  rw [NCallX_iff]
  exact ⟨h.1,fun w hm=>(h.2 w hm).mono fun e w' hq=>.inl hq⟩
theorem NCallX.mono {P:Program} {f:FuncId} {args:List AV} {m:List Blk} {K K':AV→List Blk→Prop} {Kp Kp':List PanicEntry→List Blk→Prop} (h:NCallX P f args m K Kp) (hk:∀ r m,K r m→K' r m) (hp:∀ ch m,Kp ch m→Kp' ch m):NCallX P f args m K' Kp':=by
  rw [NCallX_iff] at h ⊢
  refine ⟨h.1,fun w hm=>(h.2 w hm).mono fun e w' hq=>?_⟩
  rcases hq with ⟨r,m',h1,h2⟩ | ⟨r,m',h1,h2⟩
  · exact .inl ⟨r,m',hk r m' h1,h2⟩
  · exact .inr ⟨r,m',hp r m' h1,h2⟩
theorem NCallX.never {P:Program} {f:FuncId} {args:List AV} {m:List Blk} {K:AV→List Blk→Prop} (h:NCallX P f args m K fun _ _=>False):NCall P f args m K:=by
  rw [NCallX_iff] at h
  rw [NCall_iff]
  exact ⟨h.1,fun w hm=>(h.2 w hm).mono fun e w' hq=>hq.elim id fun ⟨_,_,h,_⟩=>h.elim⟩
def opX (P:Program) (sl:List AV) (m:List Blk) (op:Op) (K:AV→List Blk→Prop) (Kp:List PanicEntry→List Blk→Prop):Prop :=
  match op with
  | .call c =>
    match c.callee with
    | .value f=>evK sl f fun f=>match f with
      | .fn g first captured=>evLK sl c.args.toList fun xs=>NCallX P g (first++xs++captured) m K Kp
      | _=>False
    | _=>opM P sl m op K
  | .panic x=>evK sl x fun x=>match x with
    | .ifc t y=>Kp [{ v:=.iface t y.den,recovered:=false }] m
    | _=>False
  | .makeInterface t x=>evK sl x fun y=>match P.underlying t with
    | some (.int _)=>K (.ifc t y) m
    | _=>False
  | .binOp op t x y t2=>evK sl x fun u=>match u with
    | .ifc _ _=>match op,y,P.underlying t with
      | .eql,.const .nilIface,some (.interface _)=>K (.bool false) m
      | .neq,.const .nilIface,some (.interface _)=>K (.bool true) m
      | _,_,_=>False
    | .raw .nilIface=>match op,y,P.underlying t with
      | .eql,.const .nilIface,some (.interface _)=>K (.bool true) m
      | .neq,.const .nilIface,some (.interface _)=>K (.bool false) m
      | _,_,_=>False
    | _=>opM P sl m (.binOp op t x y t2) K
  | .convert src dst x=>evK sl x fun u=>match u,P.underlying src,P.underlying dst with
    | .str s,some .string,some (.slice e)=>match P.underlying e with
      | some (.int .u8)=>lenLK m lits fun ln=>∀ b cap,appK m ⟨⟨b,0,none⟩,s.map fun c=>.int .u8 c.toNat,.ro (.slice (some ⟨b,0,none⟩) s.length cap) 1 s.length⟩ fun m'=>K (.sl ln (.slice (some ⟨b,0,none⟩) s.length cap) s.length) m'
      | _=>False
    | _,_,_=>opM P sl m (.convert src dst x) K
  | .typeAssert x _ to ok=>evK sl x fun u=>match u,ok,P.underlying to with
    | .ifc t1 v,true,some (.int _)=>match Nat.decEq t1 to with
      | .isTrue _=>K (.tup [v,.bool true]) m
      | .isFalse _=>False
    | _,_,_=>False
  | op=>opM P sl m op K
def opsX (P:Program) (ops:Array Oper):List Oper→List AV→List Blk→Post→Prop
  | [],sl,m,Q=>Q .normal sl m
  | o::rest,sl,m,Q =>
    match o.guard with
    | none=>opX P sl m o.op (fun v m'=>dstK sl o.dst v fun sl'=>opsX P ops rest sl' m' Q) fun ch m'=>Q (.panic ch) sl m'
    | some (j,want)=>guardK ops sl j want
      (opX P sl m o.op (fun v m'=>dstK sl o.dst v fun sl'=>opsX P ops rest sl' m' Q) fun ch m'=>Q (.panic ch) sl m')
      (dstK sl o.dst (.raw undef) fun sl'=>opsX P ops rest sl' m Q)
@[irreducible] def NDrawX (P:Program) (ops:Array Oper) (sl:List AV) (m:List Blk) (Q:Post):Prop :=
  ∀ (id:Nat) (w0:World) (S:Own) (a:Act) (w:World),Sim w0 S sl m a w→(Code.region id ops true).wp P (fun e a w=>∃ sl m,Q e sl m∧Sim w0 S sl m a w) a w
def codeX (P:Program):Code→List AV→List Blk→Post→Prop
  | .skip,sl,m,Q=>Q .normal sl m
  | .region _ ops draw,sl,m,Q =>
    match draw with
    | false=>opsX P ops ops.toList sl m Q
    | true=>NDrawX P ops sl m Q
  | .seq a b,sl,m,Q=>codeX P a sl m fun e sl m=>match e with
    | .normal=>codeX P b sl m Q
    | e=>Q e sl m
  | .cond c a b,sl,m,Q=>evK sl c fun v=>match v with
    | .bool x=>NIf x (codeX P a sl m Q) (codeX P b sl m Q)
    | _=>False
  | .block id c,sl,m,Q=>codeX P c sl m fun e sl m=>match e with
    | .exit j=>match Nat.decEq j id with
      | .isTrue _=>Q .normal sl m
      | .isFalse _=>Q (.exit j) sl m
    | e=>Q e sl m
  | .loop c,sl,m,Q=>NLoop (codeX P c) sl m Q
  | .exit id,sl,m,Q=>Q (.exit id) sl m
  | .ret,sl,m,Q=>Q .ret sl m
  | .scope c,sl,m,Q=>codeX P c sl m fun e sl m=>match e with
    | .goto _=>False
    | e=>Q e sl m
  | .label _,sl,m,Q=>Q .normal sl m
  | _,_,_,_=>False
def funcX (P:Program) (fn:Func) (args:List AV) (m:List Blk) (R:AV→List Blk→Prop) (Rp:List PanicEntry→List Blk→Prop):Prop :=
  match fn.body with
  | some c=>argK args fn.ntmps fun sl=>codeX P c sl m fun e sl m' =>
    match e with
    | .normal=>resK P m' sl fn.results.toList fun xs=>retK xs fun r=>R r m'
    | .ret=>resK P m' sl fn.results.toList fun xs=>retK xs fun r=>R r m'
    | .panic ch=>Rp ch m'
    | _=>False
  | none=>False
section
variable {P:Program}
theorem opX_spec {sl:List AV} {m:List Blk} {a:Act} {w w0:World} {S:Own} (hs:SlotsOk sl a.tmps) (hm:MemOk m w) (hf:Fr S.w w0 w) (hr:Fresh S w0 m) {o:Oper} {K:AV→List Blk→Prop} {Kp:List PanicEntry→List Blk→Prop}
    (h:opX P sl m o.op K Kp) {next:Act→World→Prop} {Q:Exit→Act→World→Prop} (hn:∀ v m' w',Left S w0 K v m' w'→next (a.put o.dst v.den) w') (hp:∀ ch m' w',Left S w0 (fun _ m=>Kp ch m) .any m' w'→Q (.panic ch) a w'):o.wp P a w next Q:=by
  obtain ⟨dst,op,ty,pos,after,guard⟩:=o
  have plain:opM P sl m op K→Oper.wp P ⟨dst,op,ty,pos,after,guard⟩ a w next Q:=fun h=>opM_spec (o:=⟨dst,op,ty,pos,after,guard⟩) hs hm hf hr h hn
  have fresh_of:∀ {m':List Blk},Fresh (own m) w m'→Fresh S w0 m':=fun hr'=>⟨fun b hb=>by
      rcases hr'.1 b hb with h | h
      · exact hr.1 b h
      · exact .inr (Nat.le_trans hf.size h),fun b hb=>by
      rcases hr'.2 b hb with h | h
      · exact hr.2 b h
      · exact .inr (Nat.le_trans hf.size h)⟩
  cases op with
  | call c =>
    obtain ⟨callee,args,tys⟩:=c
    cases callee with
    | value f =>
      simp only [opX] at h
      obtain ⟨u,h1,h2⟩:=evK_spec hs h
      cases u<;>try exact h1.elim
      rename_i g first captured
      obtain ⟨xs,h3,h4⟩:=evLK_spec hs h1
      rw [NCallX_iff] at h3
      obtain ⟨h5,h6⟩:=h3
      unfold Oper.wp
      have:(execOp a.eval { dst:=dst,op:=.call { callee:=.value f,args:=args,argTypes:=tys },type:=ty,pos:=pos,after:=after,guard:=guard }).run P w = .ok (.enter g (denL (first++xs++captured)).toArray) w:=by
        simp only [execOp,resolve,Sem.run_bind,h2,AV.den,Deferred.ofValue,Sem.run_pure,Result.andThen_ok,invoke,map_toArray_eval h4,h5]
        simp [denL_append]
      rw [this,Oper.upon_enter]
      refine (h6 w hm).mono fun e w' h7=>?_
      rcases h7 with ⟨r,m',hK,rfl,hm',hf',hr'⟩ | ⟨ch,m',hK,rfl,hm',hf',hr'⟩
      · exact hn r m' w' ⟨hK,hm',hf.then hf' hr.1,fresh_of hr'⟩
      · exact hp ch m' w' ⟨hK,hm',hf.then hf' hr.1,fresh_of hr'⟩
    | _=>exact plain h
  | panic x =>
    simp only [opX] at h
    obtain ⟨u,h1,h2⟩:=evK_spec hs h
    cases u<;>try exact h1.elim
    rename_i t y
    unfold Oper.wp
    have:(execOp a.eval { dst:=dst,op:=.panic x,type:=ty,pos:=pos,after:=after,guard:=guard }).run P w = .halt (.panic (.iface t y.den)) w:=by
      simp only [execOp,h2,AV.den]
      rfl
    rw [this,Oper.upon_panic]
    exact hp _ m w ⟨h1,hm,hf,hr⟩
  | makeInterface t x =>
    simp only [opX] at h
    obtain ⟨u,h1,h2⟩:=evK_spec hs h
    split at h1
    · rename_i k hk
      unfold Oper.wp
      have:(execOp a.eval { dst:=dst,op:=.makeInterface t x,type:=ty,pos:=pos,after:=after,guard:=guard }).run P w = .ok (.value (AV.ifc t u).den) w:=by
        simp only [execOp,h2,AV.den,Instr.makeInterface,Sem.run_bind,run_underlying hk,Result.andThen_ok]
        rfl
      rw [this,Oper.upon_value]
      exact hn (.ifc t u) m w ⟨h1,hm,hf,hr⟩
    · exact h1.elim
  | binOp op t x y t2 =>
    simp only [opX] at h
    obtain ⟨u,h1,h2⟩:=evK_spec hs h
    split at h1
    · rename_i t1 v
      split at h1
      · rename_i ms hu
        have hm2:P.underlying t=some (.interface (P.methodsAt t)):=by rw [hu];unfold Program.methodsAt;rw [hu]
        unfold Oper.wp
        have:(execOp a.eval { dst:=dst,op:=.binOp .eql t x (.const .nilIface) t2,type:=ty,pos:=pos,after:=after,guard:=guard }).run P w = .ok (.value (AV.bool false).den) w:=by
          have h3:a.eval (.const .nilIface) = .nilIface:=rfl
          have h4:eqGuard .eql t x (.const .nilIface) (.iface t1 v.den) .nilIface=pure ():=rfl
          simp only [execOp,h2,h3,h4,AV.den,Sem.run_bind,Sem.run_pure,Result.andThen_ok,run_eql_held_nil w t t1 v.den hm2]
        rw [this,Oper.upon_value]
        exact hn (.bool false) m w ⟨h1,hm,hf,hr⟩
      · rename_i ms hu
        have hm2:P.underlying t=some (.interface (P.methodsAt t)):=by rw [hu];unfold Program.methodsAt;rw [hu]
        unfold Oper.wp
        have:(execOp a.eval { dst:=dst,op:=.binOp .neq t x (.const .nilIface) t2,type:=ty,pos:=pos,after:=after,guard:=guard }).run P w = .ok (.value (AV.bool true).den) w:=by
          have h3:a.eval (.const .nilIface) = .nilIface:=rfl
          have h4:eqGuard .neq t x (.const .nilIface) (.iface t1 v.den) .nilIface=pure ():=rfl
          simp only [execOp,h2,h3,h4,AV.den,Sem.run_bind,Sem.run_pure,Result.andThen_ok,run_neq_held_nil w t t1 v.den hm2]
        rw [this,Oper.upon_value]
        exact hn (.bool true) m w ⟨h1,hm,hf,hr⟩
      · exact h1.elim
    · split at h1
      · rename_i ms hu
        have hm2:P.underlying t=some (.interface (P.methodsAt t)):=by rw [hu];unfold Program.methodsAt;rw [hu]
        unfold Oper.wp
        have:(execOp a.eval { dst:=dst,op:=.binOp .eql t x (.const .nilIface) t2,type:=ty,pos:=pos,after:=after,guard:=guard }).run P w = .ok (.value (AV.bool true).den) w:=by
          have h3:a.eval (.const .nilIface) = .nilIface:=rfl
          have h4:eqGuard .eql t x (.const .nilIface) .nilIface .nilIface=pure ():=by cases x<;>rfl
          simp only [execOp,h2,h3,h4,AV.den,Sem.run_bind,Sem.run_pure,Result.andThen_ok,run_eql_nil_nil w t hm2]
        rw [this,Oper.upon_value]
        exact hn (.bool true) m w ⟨h1,hm,hf,hr⟩
      · rename_i ms hu
        have hm2:P.underlying t=some (.interface (P.methodsAt t)):=by rw [hu];unfold Program.methodsAt;rw [hu]
        unfold Oper.wp
        have:(execOp a.eval { dst:=dst,op:=.binOp .neq t x (.const .nilIface) t2,type:=ty,pos:=pos,after:=after,guard:=guard }).run P w = .ok (.value (AV.bool false).den) w:=by
          have h3:a.eval (.const .nilIface) = .nilIface:=rfl
          have h4:eqGuard .neq t x (.const .nilIface) .nilIface .nilIface=pure ():=by cases x<;>rfl
          simp only [execOp,h2,h3,h4,AV.den,Sem.run_bind,Sem.run_pure,Result.andThen_ok,run_neq_nil_nil w t hm2]
        rw [this,Oper.upon_value]
        exact hn (.bool false) m w ⟨h1,hm,hf,hr⟩
      · exact h1.elim
    · exact plain h1
  | convert st dt x =>
    simp only [opX] at h
    obtain ⟨u,h1,h2⟩:=evK_spec hs h
    split at h1
    · rename_i s e hsrc hdst
      split at h1
      · rename_i he
        have h3:=lenLK_spec h1
        have h4:=appK_spec (h3 w.heap.size (grownCap w s.length 0 e))
        have hrun:=Lib.run_convert_string_bytes (P:=P) w st dt e ⟨s.toArray⟩ hsrc hdst he
        have hsz:(⟨s.toArray⟩:ByteArray).size=s.length:=by simp [ByteArray.size]
        rw [hsz] at hrun
        unfold Oper.wp
        have:(execOp a.eval { dst:=dst,op:=.convert st dt x,type:=ty,pos:=pos,after:=after,guard:=guard }).run P w = .ok (.value (AV.sl m.length (.slice (some ⟨w.heap.size,0,none⟩) s.length (grownCap w s.length 0 e)) s.length).den) (Lib.bytesWorld w e ⟨s.toArray⟩):=by
          simp only [execOp,h2,AV.den,Sem.run_bind,hrun,Result.andThen_ok]
          rfl
        rw [this,Oper.upon_value]
        have hden:∀ j u,(denL (s.map fun c=>AV.int .u8 c.toNat))[j]?=some u→(Lib.bytesWorld w e ⟨s.toArray⟩).cell? (Addr.add ⟨w.heap.size,0,none⟩ j)=some u:=fun j u hu=>by
          have hdl:denL (s.map fun c=>AV.int .u8 c.toNat)=s.map fun c=>Value.int .u8 c.toNat:=by
            clear hrun hsz h4 h3 h1 h2 this hu
            induction s with
            | nil=>rfl
            | cons c l ih=>simp only [List.map_cons,denL,AV.den];rw [ih]
          rw [hdl,List.getElem?_map] at hu
          cases hc:s[j]? with
          | none=>rw [hc] at hu;cases hu
          | some c =>
            rw [hc] at hu
            cases hu
            have hj:=(List.getElem?_eq_some_iff.1 hc).1
            have:=Lib.bytesWorld_cell w e ⟨s.toArray⟩ j (by rw [hsz];exact hj)
            rw [show (Addr.add ⟨w.heap.size,0,none⟩ j)=(⟨w.heap.size,j,none⟩:Addr) by cases j<;>simp [Addr.add],this]
            have hg:s.getD j 0=c:=by rw [List.getD_eq_getElem?_getD,hc];rfl
            show some (Value.int .u8 ((s.getD j 0).toNat:Int))=_
            rw [hg]
        refine hn _ _ _ ⟨h4,?_,?_,?_⟩
        · refine hm.push (by rw [Lib.bytesWorld_size];omega) (fun k hk b hb=>Lib.bytesWorld_at_old w e _ b ((hm.holds k hk).lt hb)) ⟨by simp,some ⟨w.heap.size,0,none⟩,_,rfl,?_,by simp,fun _=>⟨rfl,by rw [Lib.bytesWorld_size];simp,hden⟩⟩ (fun b hb=>?_)
          · exact grownCap_ge w s.length 0 e
          · simp [Blk.foot,Blk.bn] at hb
            omega
        · exact hf.then (T:=fun _=>False) ⟨rfl,rfl,rfl,by rw [Lib.bytesWorld_size];omega,fun k hk _=>Lib.bytesWorld_at_old w e _ k hk⟩ fun i hi=>hi.elim
        · refine hr.push rfl fun b hb=>?_
          simp [Blk.bn] at hb
          have:=hf.size
          omega
      · exact h1.elim
    · exact plain h1
  | typeAssert x xt to ok =>
    simp only [opX] at h
    obtain ⟨u,h1,h2⟩:=evK_spec hs h
    split at h1
    · rename_i t1 v k hk
      split at h1
      · rename_i he _
        subst he
        unfold Oper.wp
        have:(execOp a.eval { dst:=dst,op:=.typeAssert x xt t1 true,type:=ty,pos:=pos,after:=after,guard:=guard }).run P w = .ok (.value (AV.tup [v,.bool true]).den) w:=by
          simp only [execOp,h2,AV.den,Instr.typeAssert,Sem.run_bind,run_underlying hk,Result.andThen_ok,if_true]
          rfl
        rw [this,Oper.upon_value]
        exact hn (.tup [v,.bool true]) m w ⟨h1,hm,hf,hr⟩
      · exact h1.elim
    · exact h1.elim
  | _=>exact plain h
theorem opsX_sound {w0:World} {S:Own} {ops:Array Oper} {l:List Oper} {sl:List AV} {m:List Blk} {Q:Post} (h:opsX P ops l sl m Q) {a:Act} {w:World} (hsim:Sim w0 S sl m a w)
    {R:Exit→Act→World→Prop} (hk:∀ e sl m a w,Q e sl m→Sim w0 S sl m a w→R e a w):wpList P ops R l a w:=by
  induction l generalizing sl m a w with
  | nil=>exact hk _ _ _ _ _ h hsim
  | cons o rest ih =>
    simp only [opsX] at h
    have run:(opX P sl m o.op (fun v m'=>dstK sl o.dst v fun sl'=>opsX P ops rest sl' m' Q) fun ch m'=>Q (.panic ch) sl m')→o.wp P a w (wpList P ops R rest) R:=fun h =>
      opX_spec hsim.slots hsim.mem hsim.fr hsim.fresh h (fun v m' w' hl=>by
        obtain ⟨sl',h1,h2⟩:=dstK_spec hl.k hsim.slots
        exact ih h1 (hsim.step h2 hl.mem hl.fr hl.fresh)) fun ch m' w' hl=>hk _ _ _ _ _ hl.k ⟨hsim.slots,hsim.defers,hl.mem,hl.fr,hl.fresh⟩
    unfold wpList
    split at h
    · rename_i hg
      rw [if_pos (by simp [Region.wanted,hg])]
      exact .inl (run h)
    · rename_i j want hg
      rcases guardK_spec h hsim.slots hg with ⟨h1,h2⟩ | ⟨h1,h2⟩
      · rw [if_pos h1]
        exact .inl (run h2)
      · rw [if_neg (by simp [h1])]
        obtain ⟨sl',h3,h4⟩:=dstK_spec h2 hsim.slots
        exact ih h3 (hsim.step h4 hsim.mem hsim.fr hsim.fresh)
theorem codeX_sound {w0:World} {S:Own} {c:Code}:∀ {sl:List AV} {m:List Blk} {Q:Post},codeX P c sl m Q→∀ {a:Act} {w:World},Sim w0 S sl m a w →
    c.wp P (fun e a w=>∃ sl m,Q e sl m∧Sim w0 S sl m a w) a w:=by
  induction c with
  | skip=>intro sl m Q h a w hs;exact wp_skip ⟨_,_,h,hs⟩
  | region id ops draw =>
    intro sl m Q h a w hs
    cases draw with
    | false =>
      exact wp_region_list (opsX_sound h hs fun e sl m a w h1 h2=>⟨sl,m,h1,h2⟩)
    | true =>
      simp only [codeX] at h
      unfold NDrawX at h
      exact h id w0 S a w hs
  | seq x y ihx ihy =>
    intro sl m Q h a w hs
    refine wp_seq (wp_mono (ihx h hs) fun e a w hq=>?_)
    obtain ⟨sl',m',h1,h2⟩:=hq
    cases e with
    | normal=>exact ihy h1 h2
    | _=>exact ⟨sl',m',h1,h2⟩
  | cond c x y ihx ihy =>
    intro sl m Q h a w hs
    obtain ⟨v,h1,h2⟩:=evK_spec hs.slots h
    cases v<;>try exact h1.elim
    rename_i t
    simp only [NIf_iff] at h1
    refine wp_cond_split (t:=t) (by rw [h2];rfl) (fun ht=>ihx (h1.1 ht) hs) (fun ht=>ihy (h1.2 ht) hs)
  | block id c ih =>
    intro sl m Q h a w hs
    refine wp_block (wp_mono (ih h hs) fun e a w hq=>?_)
    obtain ⟨sl',m',h1,h2⟩:=hq
    cases e with
    | exit j =>
      simp only [Exit.inBlock]
      split at h1
      · rename_i hj;injection hj with hj;subst hj
        split at h1
        · rename_i heq _;rw [if_pos heq];exact ⟨sl',m',h1,h2⟩
        · rename_i heq _;rw [if_neg heq];exact ⟨sl',m',h1,h2⟩
      · rename_i hne;exact (hne _ rfl).elim
    | _=>exact ⟨sl',m',h1,h2⟩
  | loop c ih =>
    intro sl m Q h a w hs
    simp only [codeX] at h
    unfold NLoop at h
    rcases h with ⟨α,ok,s,mm,μ,hin,hround⟩ | ⟨n,hn⟩
    rotate_left
    · refine wp_loop_rounds n ?_
      induction n generalizing sl m a w with
      | zero=>exact hn.elim
      | succ n ihn =>
        rw [rounds_succ]
        refine wp_mono (ih hn hs) fun e a w hq=>?_
        obtain ⟨sl',m',h3,h4⟩:=hq
        cases e with
        | normal=>exact ihn h4 h3
        | _=>exact ⟨sl',m',h3,h4⟩
    obtain ⟨x0,h0,h1,h2⟩:=hin ⟨w,hs.mem⟩
    refine wp_loop_ghost (fun n a w=>∃ x,ok x∧μ x=n∧Sim w0 S (s x) (mm x) a w) (μ x0) ⟨x0,h0,rfl,hs.fits h1 h2⟩ ?_
    rintro n a w ⟨x,hx,rfl,hsx⟩
    refine wp_mono (ih (hround x hx) hsx) fun e a w hq=>?_
    obtain ⟨sl',m',h3,h4⟩:=hq
    cases e with
    | normal =>
      obtain ⟨x',h5,h6,h7,h8⟩:=h3.get ⟨w,h4.mem⟩
      exact ⟨μ x',h6,x',h5,rfl,h4.fits h7 h8⟩
    | _=>exact ⟨sl',m',h3,h4⟩
  | rangeFunc=>intro sl m Q h;exact h.elim
  | exit id=>intro sl m Q h a w hs;exact wp_exit ⟨_,_,h,hs⟩
  | scope c ih =>
    intro sl m Q h a w hs
    refine wp_scope_straight (wp_mono (ih h hs) fun e a w hq=>?_)
    obtain ⟨sl',m',h1,h2⟩:=hq
    cases e with
    | goto l=>exact h1.elim
    | _=>exact ⟨sl',m',h1,h2⟩
  | label l=>intro sl m Q h a w hs;exact wp_label ⟨_,_,h,hs⟩
  | goto l=>intro sl m Q h;exact h.elim
  | ret=>intro sl m Q h a w hs;exact wp_ret ⟨_,_,h,hs⟩
  | refuse why=>intro sl m Q h;exact h.elim
theorem ncallx_of {f : FuncId} {fn : Func} (hf : P.funcs[f]? = some fn) (hb : fn.body.isSome = true) (hn : (fn.name == "runtime.NumGoroutine") = false) {args : List AV} {m : List Blk} {K : AV → List Blk → Prop} {Kp : List PanicEntry → List Blk → Prop}
    (h:funcX P fn args m K Kp):NCallX P f args m K Kp:=by
  rw [NCallX_iff]
  refine ⟨enters_of hf hb hn,fun w hm=>?_⟩
  unfold funcX at h
  split at h
  · rename_i c hc
    obtain ⟨hlen,h⟩:=argK_spec h
    have hsim:Sim w (own m) (args++List.replicate (fn.ntmps - args.length) .any) m { tmps:=(denL args).toArray++Array.replicate (fn.ntmps - (denL args).toArray.size) undef,defers:=[] } w :=
      ⟨args_ok hlen,rfl,hm,Fr.refl _ w,fun b hb=>.inl hb,fun b hb=>.inl hb⟩
    refine calls_of_wp hf hc (wp_mono (codeX_sound h hsim) fun e a w' hq=>?_)
    obtain ⟨sl',m',h1,h2⟩:=hq
    cases e with
    | normal =>
      obtain ⟨xs,h3,h4⟩:=results_spec h2.slots h1
      exact ⟨h2.defers,_,h4 w' h2.mem,.inl ⟨_,_,retK_spec h3,rfl,h2.mem,h2.fr,h2.fresh⟩⟩
    | ret =>
      obtain ⟨xs,h3,h4⟩:=results_spec h2.slots h1
      exact ⟨h2.defers,_,h4 w' h2.mem,.inl ⟨_,_,retK_spec h3,rfl,h2.mem,h2.fr,h2.fresh⟩⟩
    | exit id=>exact h1.elim
    | goto l=>exact h1.elim
    | panic ch=>exact ⟨h2.defers,.inr ⟨_,_,h1,rfl,h2.mem,h2.fr,h2.fresh⟩⟩
    | outgrown=>exact h1.elim
  · exact h.elim
theorem sub_frame {m mL:List Blk} (idx:List Nat) (hn:idx.Nodup) (hmL:idx.map (fun i=>m[i]?)=mL.map some) :
    (∀ w,MemOk m w→MemOk mL w∧∀ b,wrs mL b→wrs m b)∧∀ bs:List Blk,idx.length≤bs.length→∀ w w',MemOk m w→MemOk bs w'→Fr (wrs mL) w w'→Fresh (own mL) w bs→MemOk (rep m idx bs) w'∧Fresh (own m) w (rep m idx bs):=by
  have hlen:idx.length=mL.length:=by simpa using congrArg List.length hmL
  have hat:∀ t:Nat,∀ k,mL[t]?=some k→∃ i,idx[t]?=some i∧m[i]?=some k:=fun t k hk=>by
    have e:=congrArg (fun l=>l[t]?) hmL
    simp only [List.getElem?_map,hk,Option.map_some] at e
    rcases hi:idx[t]? with _ | i
    · rw [hi] at e;simp at e
    · rw [hi] at e
      simp only [Option.map_some,Option.some.injEq] at e
      exact ⟨i,rfl,e⟩
  have hlt:∀ i∈idx,i<m.length:=fun i hi=>by
    obtain ⟨t,ht,rfl⟩:=List.getElem_of_mem hi
    obtain ⟨i',h1,h2⟩:=hat t mL[t] (List.getElem?_eq_getElem (by omega))
    rw [List.getElem?_eq_getElem ht] at h1
    cases h1
    exact (List.getElem?_eq_some_iff.1 h2).1
  have hmem:∀ k∈mL,∃ i∈idx,m[i]?=some k:=fun k hk=>by
    obtain ⟨t,ht,rfl⟩:=List.getElem_of_mem hk
    obtain ⟨i,h1,h2⟩:=hat t _ (List.getElem?_eq_getElem ht)
    exact ⟨i,List.mem_of_getElem? h1,h2⟩
  have hwrs:∀ b,wrs mL b→wrs m b:=fun b ⟨k,hk,h1,h2⟩=>by
    obtain ⟨i,_,h3⟩:=hmem k hk
    exact ⟨k,List.mem_of_getElem? h3,h1,h2⟩
  refine ⟨(fun w hm=>⟨⟨fun k hk=>?_,sep_of fun i j x y hij hx hy=>?_⟩,hwrs⟩),?_⟩
  · obtain ⟨i,_,h3⟩:=hmem k hk
    exact hm.holds k (List.mem_of_getElem? h3)
  · obtain ⟨i',h1,h2⟩:=hat i x hx
    obtain ⟨j',h3,h4⟩:=hat j y hy
    refine sep_at hm.sep (fun e=>?_) h2 h4
    subst e
    obtain ⟨hi,e1⟩:=List.getElem?_eq_some_iff.1 h1
    obtain ⟨hj,e2⟩:=List.getElem?_eq_some_iff.1 h3
    exact List.pairwise_iff_getElem.1 hn i j hi hj hij (e1.trans e2.symm)
  intro bs hl w w' hm hm' hf hfr
  have hylt:∀ y∈m,∀ b,y.foot b→b<w.heap.size:=fun y hy b hb=>(hm.holds y hy).lt hb
  have hold:∀ j y,j ∉ idx→m[j]?=some y→∀ b,y.foot b→¬ wrs mL b:=fun j y hj hy b hb ⟨k,hk,hkw,hkb⟩=>by
    obtain ⟨i,hi,h3⟩:=hmem k hk
    exact sep_at hm.sep (i:=i) (j:=j) (fun e=>hj (e ▸ hi)) h3 hy (.inl hkw) b hkb hb
  have hfoot:∀ j y,j ∉ idx→m[j]?=some y→y.wr=true→∀ b,y.foot b→¬ foots mL b:=fun j y hj hy hyw b hb ⟨k,hk,hkb⟩=>by
    obtain ⟨i,hi,h3⟩:=hmem k hk
    exact sep_at hm.sep (i:=i) (j:=j) (fun e=>hj (e ▸ hi)) h3 hy (.inr hyw) b hkb hb
  have hbo:∀ t x j y,bs[t]?=some x→j ∉ idx→m[j]?=some y→Sep x y:=fun t x j y hx hj hy=>fun hww b hb1 hb2=>by
    have hnew:b<w.heap.size:=hylt y (List.mem_of_getElem? hy) b hb2
    rcases hww with hw | hw
    · rcases hfr.1 b ⟨x,List.mem_of_getElem? hx,hw,hb1⟩ with h3 | h3
      · exact hold j y hj hy b hb2 h3
      · omega
    · rcases hfr.2 b ⟨x,List.mem_of_getElem? hx,hb1⟩ with h3 | h3
      · exact hfoot j y hj hy hw b hb2 h3
      · omega
  have hfoots:∀ b,foots mL b→foots m b:=fun b ⟨k,hk,hkb⟩=>by
    obtain ⟨i,_,h3⟩:=hmem k hk
    exact ⟨k,List.mem_of_getElem? h3,hkb⟩
  refine ⟨⟨fun k hk=>?_,sep_of fun i j x y hij hx hy=>?_⟩,fun b ⟨k,hk,hkw,hkb⟩=>?_,fun b ⟨k,hk,hkb⟩=>?_⟩
  · obtain ⟨j,hj⟩:=List.getElem?_of_mem hk
    rcases rep_at idx m bs j k hn hlt hl hj with ⟨t,ht,_⟩ | ⟨h3,h4⟩
    · exact hm'.holds k (List.mem_of_getElem? ht)
    · refine (hm.holds k (List.mem_of_getElem? h4)).keep hf.size fun b hb=>?_
      exact hf.block b (hylt k (List.mem_of_getElem? h4) b hb) (hold j k h3 h4 b hb)
  · rcases rep_at idx m bs i x hn hlt hl hx with ⟨t,ht,hti⟩ | ⟨h3,h4⟩
    · rcases rep_at idx m bs j y hn hlt hl hy with ⟨u,hu,huj⟩ | ⟨h5,h6⟩
      · exact sep_at hm'.sep (fun e=>by subst e;omega) ht hu
      · exact hbo t x j y ht h5 h6
    · rcases rep_at idx m bs j y hn hlt hl hy with ⟨u,hu,huj⟩ | ⟨h5,h6⟩
      · exact (hbo u y i x hu h3 h4).symm
      · exact sep_at hm.sep (by omega) h4 h6
  · obtain ⟨j,hj⟩:=List.getElem?_of_mem hk
    rcases rep_at idx m bs j k hn hlt hl hj with ⟨t,ht,_⟩ | ⟨h3,h4⟩
    · rcases hfr.1 b ⟨k,List.mem_of_getElem? ht,hkw,hkb⟩ with h5 | h5
      · exact .inl (hwrs b h5)
      · exact .inr h5
    · exact .inl ⟨k,List.mem_of_getElem? h4,hkw,hkb⟩
  · obtain ⟨j,hj⟩:=List.getElem?_of_mem hk
    rcases rep_at idx m bs j k hn hlt hl hj with ⟨t,ht,_⟩ | ⟨h3,h4⟩
    · rcases hfr.2 b ⟨k,List.mem_of_getElem? ht,hkb⟩ with h5 | h5
      · exact .inl (hfoots b h5)
      · exact .inr h5
    · exact .inl ⟨k,List.mem_of_getElem? h4,hkb⟩
theorem NCallX.frame {f:FuncId} {args args':List AV} {m mL:List Blk} {K KL:AV→List Blk→Prop} {Kp KpL:List PanicEntry→List Blk→Prop} (h:NCallX P f args' mL KL KpL) (hargs:denL args'=denL args)
    (hin:∀ w,MemOk m w→MemOk mL w∧∀ b,wrs mL b→wrs m b)
    (hK:∀ r mL',KL r mL'→∃ r' m',r'.den=r.den∧K r' m'∧∀ w w',MemOk m w→MemOk mL' w'→Fr (wrs mL) w w'→Fresh (own mL) w mL'→MemOk m' w'∧Fresh (own m) w m')
    (hP:∀ ch mL',KpL ch mL'→∃ m',Kp ch m'∧∀ w w',MemOk m w→MemOk mL' w'→Fr (wrs mL) w w'→Fresh (own mL) w mL'→MemOk m' w'∧Fresh (own m) w m'):NCallX P f args m K Kp:=by
  rw [NCallX_iff] at h ⊢
  refine ⟨h.1,fun w hm=>?_⟩
  have fr:∀ {w':World},Fr (wrs mL) w w'→Fr (wrs m) w w':=fun h4=>⟨h4.os,h4.tape,h4.output,h4.size,fun k hk hs=>h4.block k hk (fun ht=>hs ((hin w hm).2 k ht))⟩
  have h2:=(h.2 w (hin w hm).1).mono (R':=fun e w'=>(∃ r m',K r m'∧e = .returned r.den∧MemOk m' w'∧Fr (wrs m) w w'∧Fresh (own m) w m')∨∃ ch m',Kp ch m'∧e = .panicked ch∧MemOk m' w'∧Fr (wrs m) w w'∧Fresh (own m) w m') fun e w' hq=>by
    rcases hq with ⟨r,mL',h1,rfl,h3,h4,h5⟩ | ⟨ch,mL',h1,rfl,h3,h4,h5⟩
    · obtain ⟨r',m',h6,h7,h8⟩:=hK r mL' h1
      obtain ⟨h9,h10⟩:=h8 w w' hm h3 h4 h5
      exact .inl ⟨r',m',h7,by rw [h6],h9,fr h4,h10⟩
    · obtain ⟨m',h7,h8⟩:=hP ch mL' h1
      obtain ⟨h9,h10⟩:=h8 w w' hm h3 h4 h5
      exact .inr ⟨ch,m',h7,rfl,h9,fr h4,h10⟩
  rw [hargs] at h2
  exact h2
theorem NCallX.subw {f:FuncId} {args:List AV} {m:List Blk} {K KL:AV→List Blk→Prop} {Kp KpL:List PanicEntry→List Blk→Prop} (idx:List Nat) (args':List AV) (mL:List Blk) (h:NCallX P f args' mL KL KpL) (hargs:denL args'=denL args)
    (hn:idx.Nodup) (hmL:idx.map (fun i=>m[i]?)=mL.map some)
    (hK:∀ r bs,KL r bs→idx.length≤bs.length∧∃ r',r'.den=r.den∧repK m idx bs (K r'))
    (hP:∀ ch bs,KpL ch bs→idx.length≤bs.length∧repK m idx bs (Kp ch)):NCallX P f args m K Kp:=by
  obtain ⟨h1,h2⟩:=sub_frame (mL:=mL) idx hn hmL
  refine h.frame hargs h1 (fun r bs hr=>?_) fun ch bs hr=>?_
  · obtain ⟨h3,r',h4,h5⟩:=hK r bs hr
    exact ⟨r',_,h4,repK_spec _ _ _ h5,h2 bs h3⟩
  · obtain ⟨h3,h5⟩:=hP ch bs hr
    exact ⟨_,repK_spec _ _ _ h5,h2 bs h3⟩
theorem NCallX.fits {f:FuncId} {args:List AV} {m:List Blk} {K K':AV→List Blk→Prop} {Kp Kp':List PanicEntry→List Blk→Prop} (h:NCallX P f args m K Kp)
    (hk:∀ r m',K r m'→∃ r' m'',r'.den=r.den∧MemFits m' m''∧K' r' m'') (hp:∀ ch m',Kp ch m'→∃ m'',MemFits m' m''∧Kp' ch m''):NCallX P f args m K' Kp':=by
  rw [NCallX_iff] at h ⊢
  refine ⟨h.1,fun w hm=>(h.2 w hm).mono fun e w' hq=>?_⟩
  rcases hq with ⟨r,m',h1,rfl,h3,h4,h5⟩ | ⟨r,m',h1,rfl,h3,h4,h5⟩
  · obtain ⟨r',m'',h6,h7,h8⟩:=hk r m' h1
    exact .inl ⟨r',m'',h8,by rw [h6],(h7 w' h3).1,h4,fun b hb=>h5.1 b ((h7 w' h3).2.1 b hb),fun b hb=>h5.2 b ((h7 w' h3).2.2 b hb)⟩
  · obtain ⟨m'',h7,h8⟩:=hp r m' h1
    exact .inr ⟨r,m'',h8,rfl,(h7 w' h3).1,h4,fun b hb=>h5.1 b ((h7 w' h3).2.1 b hb),fun b hb=>h5.2 b ((h7 w' h3).2.2 b hb)⟩
theorem NCallX.isF (f:FuncId) {args:List AV} {m:List Blk} {K:AV→List Blk→Prop} {Kp:List PanicEntry→List Blk→Prop} (h:NCallX P f args m K Kp):NCallX P f args m K Kp:=h
theorem gCX {f:FuncId} {args:List AV} {m:List Blk} {K:AV→List Blk→Prop} {Kp:List PanicEntry→List Blk→Prop} (h:NCallX P f args m K Kp):NCallX P f args m K Kp:=h
theorem gOX {ops:Array Oper} {l:List Oper} {sl:List AV} {m:List Blk} {Q:Post} (h:opsX P ops l sl m Q):opsX P ops l sl m Q:=h
theorem gXX {c:Code} {sl:List AV} {m:List Blk} {Q:Post} (h:codeX P c sl m Q):codeX P c sl m Q:=h
def thenX (P:Program) (b:Code) (Q:Post):Post:=fun e sl m=>match e with
  | .normal=>codeX P b sl m Q
  | e=>Q e sl m
def retX (P:Program) (fn:Func) (R:AV→List Blk→Prop) (Rp:List PanicEntry→List Blk→Prop):Post:=fun e sl m=>match e with
  | .normal=>resK P m sl fn.results.toList fun xs=>retK xs fun r=>R r m
  | .ret=>resK P m sl fn.results.toList fun xs=>retK xs fun r=>R r m
  | .panic ch=>Rp ch m
  | _=>False
end
section
variable {P:Program} {Q:Post} {sl:List AV} {m:List Blk} {a b c:Code} {id j:Nat} {ch:List PanicEntry}
theorem gRX {fn:Func} {R:AV→List Blk→Prop} {Rp:List PanicEntry→List Blk→Prop} {e:Exit} (h:retX P fn R Rp e sl m):retX P fn R Rp e sl m:=h
theorem gFX {fn:Func} {args:List AV} {R:AV→List Blk→Prop} {Rp:List PanicEntry→List Blk→Prop} (h:funcX P fn args m R Rp):funcX P fn args m R Rp:=h
theorem st_funcX {fn:Func} {c:Code} {args:List AV} {R:AV→List Blk→Prop} {Rp:List PanicEntry→List Blk→Prop} (hb:fn.body=some c) (h:∀ K:List AV→Prop,(∀ sl,codeX P c sl m (retX P fn R Rp)→K sl)→argK args fn.ntmps K):funcX P fn args m R Rp:=by
  unfold funcX
  rw [hb]
  exact h _ fun _ h=>h
theorem st_seqX (h:codeX P a sl m (thenX P b Q)):codeX P (.seq a b) sl m Q:=h
theorem st_blockX (h:codeX P a sl m (blockS id Q)):codeX P (.block id a) sl m Q:=h
theorem st_regionX {l:List Oper} (h:opsX P l.toArray l sl m Q):codeX P (.region id l.toArray false) sl m Q:=by
  simp only [codeX]
  exact h
theorem st_drawX {ops:Array Oper} (h:codeK P (.region id ops true) sl m Q):codeX P (.region id ops true) sl m Q:=by
  simp only [codeK,codeX] at h ⊢
  unfold NDraw at h
  unfold NDrawX
  intro id w0 S a w hs
  refine wp_mono (h id w0 S a w hs) fun e a w hq=>?_
  obtain ⟨rfl,sl',m',h1,h2⟩:=hq
  exact ⟨sl',m',h1,h2⟩
theorem st_skipX (h:Q .normal sl m):codeX P .skip sl m Q:=h
theorem st_exitX (h:Q (.exit id) sl m):codeX P (.exit id) sl m Q:=h
theorem st_retX (h:Q .ret sl m):codeX P .ret sl m Q:=h
theorem st_condX {o:Operand} (h:∀ A B:Prop,(codeX P a sl m Q→A)→(codeX P b sl m Q→B)→evK sl o fun v=>match v with
    | .bool x=>NIf x A B
    | _=>False):codeX P (.cond o a b) sl m Q:=h _ _ (fun h=>h) (fun h=>h)
theorem st_thenX (h:codeX P b sl m Q):thenX P b Q .normal sl m:=h
theorem st_thenX_exit (h:Q (.exit j) sl m):thenX P b Q (.exit j) sl m:=h
theorem st_thenX_ret (h:Q .ret sl m):thenX P b Q .ret sl m:=h
theorem st_thenX_panic (h:Q (.panic ch) sl m):thenX P b Q (.panic ch) sl m:=h
theorem st_block_panic (h:Q (.panic ch) sl m):blockS id Q (.panic ch) sl m:=h
theorem st_round_panic {α:Type} {ok:α→Prop} {s:α→List AV} {mm:α→List Blk} {μ:α→Nat} {x:α} (h:Q (.panic ch) sl m):roundS ok s mm μ x Q (.panic ch) sl m:=h
theorem st_retX_ret {fn:Func} {R:AV→List Blk→Prop} {Rp:List PanicEntry→List Blk→Prop} {rs:List ResultVar} (hr:fn.results.toList=rs) (h:∀ K:AV→Prop,(∀ r,R r m→K r)→resK P m sl rs fun xs=>retK xs K):retX P fn R Rp .ret sl m:=by
  show resK P m sl fn.results.toList _
  rw [hr]
  exact h _ fun _ h=>h
theorem st_retX_panic {fn:Func} {R:AV→List Blk→Prop} {Rp:List PanicEntry→List Blk→Prop} (h:Rp ch m):retX P fn R Rp (.panic ch) sl m:=h
theorem st_loopX {α:Type} (ok:α→Prop) (s:α→List AV) (mm:α→List Blk) (μ:α→Nat) (x:α) (hx:ok x) (hs:FitsSl sl (s x)) (hm:MemFits m (mm x))
    (hround:∀ x,ok x→codeX P a (s x) (mm x) (roundS ok s mm μ x Q)):codeX P (.loop a) sl m Q:=NLoop.by ok s mm μ (fun _=>⟨x,hx,hs,hm⟩) hround
theorem st_autoX {α:Type} (ok:α→Prop) (us:α→List Up) (ms:α→List UpB) (μ:α→Nat) (x:α) (hx:ok x) (hs:FitsSl sl (autoL sl (us x))) (hm:MemFits m (autoM m (ms x)))
    (hround:∀ x,ok x→∀ K:List AV→List Blk→Prop,(∀ sl' m',codeX P a sl' m' (roundS ok (fun x=>autoL sl (us x)) (fun x=>autoM m (ms x)) μ x Q)→K sl' m')→autoK sl (us x) fun sl'=>autoMK m (ms x) fun m'=>K sl' m'):codeX P (.loop a) sl m Q :=
  st_loopX ok (fun x=>autoL sl (us x)) (fun x=>autoM m (ms x)) μ x hx hs hm fun y hy=>by
    have h:=hround y hy (fun sl' m'=>codeX P a sl' m' (roundS ok (fun x=>autoL sl (us x)) (fun x=>autoM m (ms x)) μ y Q)) fun _ _ h=>h
    exact autoMK_spec _ _ (autoK_spec _ _ h)
section
variable {ops:Array Oper} {rest:List Oper}
theorem st_nilX (h:Q .normal sl m):opsX P ops [] sl m Q:=h
theorem st_opX {d:Option Tmp} {op:Op} {t:TypeId} {p:String} {e:Array Edge} (h:∀ (K:List AV→List Blk→Prop) (Kp:List PanicEntry→List Blk→Prop),(∀ sl m,opsX P ops rest sl m Q→K sl m)→(∀ ch m,Q (.panic ch) sl m→Kp ch m)→opX P sl m op (fun v m'=>dstK sl d v fun sl'=>K sl' m') Kp) :
    opsX P ops (⟨d,op,t,p,e,none⟩::rest) sl m Q:=h _ _ (fun _ _ h=>h) fun _ _ h=>h
theorem st_opXg {d:Option Tmp} {op:Op} {t:TypeId} {p:String} {e:Array Edge} {g:Nat × Bool} (h:∀ (K:List AV→List Blk→Prop) (Kp:List PanicEntry→List Blk→Prop),(∀ sl m,opsX P ops rest sl m Q→K sl m)→(∀ ch m,Q (.panic ch) sl m→Kp ch m)→guardK ops sl g.1 g.2 (opX P sl m op (fun v m'=>dstK sl d v fun sl'=>K sl' m') Kp) (dstK sl d (.raw undef) fun sl'=>K sl' m)) :
    opsX P ops (⟨d,op,t,p,e,some g⟩::rest) sl m Q:=h _ _ (fun _ _ h=>h) fun _ _ h=>h
end
end
section
variable {P:Program} {l:List Oper} {n i:Nat} {done:List Nat} {sl:List AV} {m:List Blk} {Q:Post} {id:Nat}
def OrdX (w0:World) (S:Own) (Q:Post):Exit→Act→World→Prop:=fun e a w=>∃ sl m,Q e sl m∧Sim w0 S sl m a w
end
end Go.Sx
