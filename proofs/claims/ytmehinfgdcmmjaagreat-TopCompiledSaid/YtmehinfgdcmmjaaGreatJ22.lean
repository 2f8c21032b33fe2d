import Derived.Lib.ConvBytes
import Derived.Test.YtmehinfgdcmmjaaGreatSxC
import Derived.WideLaws
import Derived.Defers
import Derived.Recover
namespace Go.Sx
set_option linter.unusedVariables false
open Go.RowKit
@[irreducible] def aG (P:Program) (f:FuncId) (args:List AV) (m:List Blk) (K:AV→List Blk→Prop) (Kp:List PanicEntry→List Blk→Prop):Prop :=
  (∀ (us:Array Value) (w:World),(callFunc f us).run P w = .ok (.enter f us) w) ∧
  ∀ w,MemOk m w→Calls P f (denL args).toArray w fun e w'=>(∃ r m',K r m'∧e = .returned r.den∧MemOk m' w'∧Fr (wrs m) w w'∧Fresh (own m) w m') ∨
    ∃ ch m',Kp ch m'∧e = .panicked ch∧MemOk m' w'∧Fr (wrs m) w w'∧Fresh (own m) w m'
theorem cK {P:Program} {f:FuncId} {args:List AV} {m:List Blk} {K:AV→List Blk→Prop} {Kp:List PanicEntry→List Blk→Prop}:aG P f args m K Kp ↔
  ((∀ (us:Array Value) (w:World),(callFunc f us).run P w = .ok (.enter f us) w) ∧
  ∀ w,MemOk m w→Calls P f (denL args).toArray w fun e w'=>(∃ r m',K r m'∧e = .returned r.den∧MemOk m' w'∧Fr (wrs m) w w'∧Fresh (own m) w m') ∨
    ∃ ch m',Kp ch m'∧e = .panicked ch∧MemOk m' w'∧Fr (wrs m) w w'∧Fresh (own m) w m'):=by unfold aG;exact Iff.rfl
theorem aG.of {P:Program} {f:FuncId} {args:List AV} {m:List Blk} {K:AV→List Blk→Prop} {Kp:List PanicEntry→List Blk→Prop} (h:NCall P f args m K):aG P f args m K Kp:=by
  rw [aM] at h
  rw [cK]
  exact ⟨h.1,fun w hm=>(h.2 w hm).mono fun e w' hq=>.inl hq⟩
def opX (P:Program) (sl:List AV) (m:List Blk) (op:Op) (K:AV→List Blk→Prop) (Kp:List PanicEntry→List Blk→Prop):Prop :=
  match op with
  | .call c =>
    match c.callee with
    | .value f=>evK sl f fun f=>match f with
      | .fn g first captured=>evLK sl c.args.toList fun xs=>aG P g (first++xs++captured) m K Kp
      | _=>False
    | _=>opM P sl m op K
  | .panic x=>evK sl x fun x=>match x with
    | .ifc t y=>Kp [{ v:=.iface t y.den,recovered:=false }] m
    | _=>False
  | .makeInterface t x=>evK sl x fun y=>match P.underlying t with
    | some (.int _)=>K (.ifc t y) m
    | _=>False
  | .binOp op t x y t2=>evK sl x fun u=>match u with
    | .ifc _ _=>match op,y,P.underlying t with
      | .eql,.const .nilIface,some (.interface _)=>K (.bool false) m
      | .neq,.const .nilIface,some (.interface _)=>K (.bool true) m
      | _,_,_=>False
    | .raw .nilIface=>match op,y,P.underlying t with
      | .eql,.const .nilIface,some (.interface _)=>K (.bool true) m
      | .neq,.const .nilIface,some (.interface _)=>K (.bool false) m
      | _,_,_=>False
    | _=>opM P sl m (.binOp op t x y t2) K
  | .convert src dst x=>evK sl x fun u=>match u,P.underlying src,P.underlying dst with
    | .str s,some .string,some (.slice e)=>match P.underlying e with
      | some (.int .u8)=>lenLK m lits fun ln=>∀ b cap,appK m ⟨⟨b,0,none⟩,s.map fun c=>.int .u8 c.toNat,.ro (.slice (some ⟨b,0,none⟩) s.length cap) 1 s.length⟩ fun m'=>K (.sl ln (.slice (some ⟨b,0,none⟩) s.length cap) s.length) m'
      | _=>False
    | _,_,_=>opM P sl m (.convert src dst x) K
  | .typeAssert x _ to ok=>evK sl x fun u=>match u,ok,P.underlying to with
    | .ifc t1 v,true,some (.int _)=>match Nat.decEq t1 to with
      | .isTrue _=>K (.tup [v,.bool true]) m
      | .isFalse _=>False
    | _,_,_=>False
  | op=>opM P sl m op K
def opsX (P:Program) (ops:Array Oper):List Oper→List AV→List Blk→Post→Prop
  | [],sl,m,Q=>Q .normal sl m
  | o::rest,sl,m,Q =>
    match o.guard with
    | none=>opX P sl m o.op (fun v m'=>dstK sl o.dst v fun sl'=>opsX P ops rest sl' m' Q) fun ch m'=>Q (.panic ch) sl m'
    | some (j,want)=>guardK ops sl j want
      (opX P sl m o.op (fun v m'=>dstK sl o.dst v fun sl'=>opsX P ops rest sl' m' Q) fun ch m'=>Q (.panic ch) sl m')
      (dstK sl o.dst (.raw undef) fun sl'=>opsX P ops rest sl' m Q)
@[irreducible] def jl (P:Program) (ops:Array Oper) (sl:List AV) (m:List Blk) (Q:Post):Prop :=
  ∀ (id:Nat) (w0:World) (S:Own) (a:Act) (w:World),Sim w0 S sl m a w→(Code.region id ops true).wp P (fun e a w=>∃ sl m,Q e sl m∧Sim w0 S sl m a w) a w
def codeX (P:Program):Code→List AV→List Blk→Post→Prop
  | .skip,sl,m,Q=>Q .normal sl m
  | .region _ ops draw,sl,m,Q =>
    match draw with
    | false=>opsX P ops ops.toList sl m Q
    | true=>jl P ops sl m Q
  | .seq a b,sl,m,Q=>codeX P a sl m fun e sl m=>match e with
    | .normal=>codeX P b sl m Q
    | e=>Q e sl m
  | .cond c a b,sl,m,Q=>evK sl c fun v=>match v with
    | .bool x=>NIf x (codeX P a sl m Q) (codeX P b sl m Q)
    | _=>False
  | .block id c,sl,m,Q=>codeX P c sl m fun e sl m=>match e with
    | .exit j=>match Nat.decEq j id with
      | .isTrue _=>Q .normal sl m
      | .isFalse _=>Q (.exit j) sl m
    | e=>Q e sl m
  | .loop c,sl,m,Q=>NLoop (codeX P c) sl m Q
  | .exit id,sl,m,Q=>Q (.exit id) sl m
  | .ret,sl,m,Q=>Q .ret sl m
  | .scope c,sl,m,Q=>codeX P c sl m fun e sl m=>match e with
    | .goto _=>False
    | e=>Q e sl m
  | .label _,sl,m,Q=>Q .normal sl m
  | _,_,_,_=>False
def ir (P:Program) (fn:Func) (args:List AV) (m:List Blk) (R:AV→List Blk→Prop) (Rp:List PanicEntry→List Blk→Prop):Prop :=
  match fn.body with
  | some c=>argK args fn.ntmps fun sl=>codeX P c sl m fun e sl m' =>
    match e with
    | .normal=>resK P m' sl fn.results.toList fun xs=>retK xs fun r=>R r m'
    | .ret=>resK P m' sl fn.results.toList fun xs=>retK xs fun r=>R r m'
    | .panic ch=>Rp ch m'
    | _=>False
  | none=>False
section
variable {P:Program}
theorem kL {sl:List AV} {m:List Blk} {a:Act} {w w0:World} {S:Own} (hs:SlotsOk sl a.tmps) (hm:MemOk m w) (hf:Fr S.w w0 w) (hr:Fresh S w0 m) {o:Oper} {K:AV→List Blk→Prop} {Kp:List PanicEntry→List Blk→Prop}
    (h:opX P sl m o.op K Kp) {next:Act→World→Prop} {Q:Exit→Act→World→Prop} (hn:∀ v m' w',Left S w0 K v m' w'→next (a.put o.dst v.den) w') (hp:∀ ch m' w',Left S w0 (fun _ m=>Kp ch m) .any m' w'→Q (.panic ch) a w'):o.wp P a w next Q:=by
  obtain ⟨dst,op,ty,pos,after,guard⟩:=o
  have plain:opM P sl m op K→Oper.wp P ⟨dst,op,ty,pos,after,guard⟩ a w next Q:=fun h=>bZ (o:=⟨dst,op,ty,pos,after,guard⟩) hs hm hf hr h hn
  have fresh_of:∀ {m':List Blk},Fresh (own m) w m'→Fresh S w0 m':=fun hr'=>⟨fun b hb=>by
      rcases hr'.1 b hb with h | h
      · exact hr.1 b h
      · exact .inr (Nat.le_trans hf.size h),fun b hb=>by
      rcases hr'.2 b hb with h | h
      · exact hr.2 b h
      · exact .inr (Nat.le_trans hf.size h)⟩
  cases op with
  | call c =>
    obtain ⟨callee,args,tys⟩:=c
    cases callee with
    | value f =>
      simp only [opX] at h
      obtain ⟨u,h1,h2⟩:=aF hs h
      cases u<;>try exact h1.elim
      rename_i g first captured
      obtain ⟨xs,h3,h4⟩:=cJ hs h1
      rw [cK] at h3
      obtain ⟨h5,h6⟩:=h3
      unfold Oper.wp
      have:(execOp a.eval { dst:=dst,op:=.call { callee:=.value f,args:=args,argTypes:=tys },type:=ty,pos:=pos,after:=after,guard:=guard }).run P w = .ok (.enter g (denL (first++xs++captured)).toArray) w:=by
        simp only [execOp,resolve,Sem.run_bind,h2,AV.den,Deferred.ofValue,Sem.run_pure,Result.andThen_ok,invoke,aZ h4,h5]
        simp [aQ]
      rw [this,Oper.upon_enter]
      refine (h6 w hm).mono fun e w' h7=>?_
      rcases h7 with ⟨r,m',hK,rfl,hm',hf',hr'⟩ | ⟨ch,m',hK,rfl,hm',hf',hr'⟩
      · exact hn r m' w' ⟨hK,hm',hf.then hf' hr.1,fresh_of hr'⟩
      · exact hp ch m' w' ⟨hK,hm',hf.then hf' hr.1,fresh_of hr'⟩
    | _=>exact plain h
  | panic x =>
    simp only [opX] at h
    obtain ⟨u,h1,h2⟩:=aF hs h
    cases u<;>try exact h1.elim
    rename_i t y
    unfold Oper.wp
    have:(execOp a.eval { dst:=dst,op:=.panic x,type:=ty,pos:=pos,after:=after,guard:=guard }).run P w = .halt (.panic (.iface t y.den)) w:=by
      simp only [execOp,h2,AV.den]
      rfl
    rw [this,Oper.upon_panic]
    exact hp _ m w ⟨h1,hm,hf,hr⟩
  | makeInterface t x =>
    simp only [opX] at h
    obtain ⟨u,h1,h2⟩:=aF hs h
    split at h1
    · rename_i k hk
      unfold Oper.wp
      have:(execOp a.eval { dst:=dst,op:=.makeInterface t x,type:=ty,pos:=pos,after:=after,guard:=guard }).run P w = .ok (.value (AV.ifc t u).den) w:=by
        simp only [execOp,h2,AV.den,Instr.makeInterface,Sem.run_bind,run_underlying hk,Result.andThen_ok]
        rfl
      rw [this,Oper.upon_value]
      exact hn (.ifc t u) m w ⟨h1,hm,hf,hr⟩
    · exact h1.elim
  | binOp op t x y t2 =>
    simp only [opX] at h
    obtain ⟨u,h1,h2⟩:=aF hs h
    split at h1
    · rename_i t1 v
      split at h1
      · rename_i ms hu
        have hm2:P.underlying t=some (.interface (P.methodsAt t)):=by rw [hu];unfold Program.methodsAt;rw [hu]
        unfold Oper.wp
        have:(execOp a.eval { dst:=dst,op:=.binOp .eql t x (.const .nilIface) t2,type:=ty,pos:=pos,after:=after,guard:=guard }).run P w = .ok (.value (AV.bool false).den) w:=by
          have h3:a.eval (.const .nilIface) = .nilIface:=rfl
          have h4:eqGuard .eql t x (.const .nilIface) (.iface t1 v.den) .nilIface=pure ():=rfl
          simp only [execOp,h2,h3,h4,AV.den,Sem.run_bind,Sem.run_pure,Result.andThen_ok,run_eql_held_nil w t t1 v.den hm2]
        rw [this,Oper.upon_value]
        exact hn (.bool false) m w ⟨h1,hm,hf,hr⟩
      · rename_i ms hu
        have hm2:P.underlying t=some (.interface (P.methodsAt t)):=by rw [hu];unfold Program.methodsAt;rw [hu]
        unfold Oper.wp
        have:(execOp a.eval { dst:=dst,op:=.binOp .neq t x (.const .nilIface) t2,type:=ty,pos:=pos,after:=after,guard:=guard }).run P w = .ok (.value (AV.bool true).den) w:=by
          have h3:a.eval (.const .nilIface) = .nilIface:=rfl
          have h4:eqGuard .neq t x (.const .nilIface) (.iface t1 v.den) .nilIface=pure ():=rfl
          simp only [execOp,h2,h3,h4,AV.den,Sem.run_bind,Sem.run_pure,Result.andThen_ok,run_neq_held_nil w t t1 v.den hm2]
        rw [this,Oper.upon_value]
        exact hn (.bool true) m w ⟨h1,hm,hf,hr⟩
      · exact h1.elim
    · split at h1
      · rename_i ms hu
        have hm2:P.underlying t=some (.interface (P.methodsAt t)):=by rw [hu];unfold Program.methodsAt;rw [hu]
        unfold Oper.wp
        have:(execOp a.eval { dst:=dst,op:=.binOp .eql t x (.const .nilIface) t2,type:=ty,pos:=pos,after:=after,guard:=guard }).run P w = .ok (.value (AV.bool true).den) w:=by
          have h3:a.eval (.const .nilIface) = .nilIface:=rfl
          have h4:eqGuard .eql t x (.const .nilIface) .nilIface .nilIface=pure ():=by cases x<;>rfl
          simp only [execOp,h2,h3,h4,AV.den,Sem.run_bind,Sem.run_pure,Result.andThen_ok,run_eql_nil_nil w t hm2]
        rw [this,Oper.upon_value]
        exact hn (.bool true) m w ⟨h1,hm,hf,hr⟩
      · rename_i ms hu
        have hm2:P.underlying t=some (.interface (P.methodsAt t)):=by rw [hu];unfold Program.methodsAt;rw [hu]
        unfold Oper.wp
        have:(execOp a.eval { dst:=dst,op:=.binOp .neq t x (.const .nilIface) t2,type:=ty,pos:=pos,after:=after,guard:=guard }).run P w = .ok (.value (AV.bool false).den) w:=by
          have h3:a.eval (.const .nilIface) = .nilIface:=rfl
          have h4:eqGuard .neq t x (.const .nilIface) .nilIface .nilIface=pure ():=by cases x<;>rfl
          simp only [execOp,h2,h3,h4,AV.den,Sem.run_bind,Sem.run_pure,Result.andThen_ok,run_neq_nil_nil w t hm2]
        rw [this,Oper.upon_value]
        exact hn (.bool false) m w ⟨h1,hm,hf,hr⟩
      · exact h1.elim
    · exact plain h1
  | convert st dt x =>
    simp only [opX] at h
    obtain ⟨u,h1,h2⟩:=aF hs h
    split at h1
    · rename_i s e hsrc hdst
      split at h1
      · rename_i he
        have h3:=dJ h1
        have h4:=bj (h3 w.heap.size (grownCap w s.length 0 e))
        have hrun:=Lib.run_convert_string_bytes (P:=P) w st dt e ⟨s.toArray⟩ hsrc hdst he
        have hsz:(⟨s.toArray⟩:ByteArray).size=s.length:=by simp [ByteArray.size]
        rw [hsz] at hrun
        unfold Oper.wp
        have:(execOp a.eval { dst:=dst,op:=.convert st dt x,type:=ty,pos:=pos,after:=after,guard:=guard }).run P w = .ok (.value (AV.sl m.length (.slice (some ⟨w.heap.size,0,none⟩) s.length (grownCap w s.length 0 e)) s.length).den) (Lib.bytesWorld w e ⟨s.toArray⟩):=by
          simp only [execOp,h2,AV.den,Sem.run_bind,hrun,Result.andThen_ok]
          rfl
        rw [this,Oper.upon_value]
        have hden:∀ j u,(denL (s.map fun c=>AV.int .u8 c.toNat))[j]?=some u→(Lib.bytesWorld w e ⟨s.toArray⟩).cell? (Addr.add ⟨w.heap.size,0,none⟩ j)=some u:=fun j u hu=>by
          have hdl:denL (s.map fun c=>AV.int .u8 c.toNat)=s.map fun c=>Value.int .u8 c.toNat:=by
            clear hrun hsz h4 h3 h1 h2 this hu
            induction s with
            | nil=>rfl
            | cons c l ih=>simp only [List.map_cons,denL,AV.den];rw [ih]
          rw [hdl,List.getElem?_map] at hu
          cases hc:s[j]? with
          | none=>rw [hc] at hu;cases hu
          | some c =>
            rw [hc] at hu
            cases hu
            have hj:=(List.getElem?_eq_some_iff.1 hc).1
            have:=Lib.bytesWorld_cell w e ⟨s.toArray⟩ j (by rw [hsz];exact hj)
            rw [show (Addr.add ⟨w.heap.size,0,none⟩ j)=(⟨w.heap.size,j,none⟩:Addr) by cases j<;>simp [Addr.add],this]
            have hg:s.getD j 0=c:=by rw [List.getD_eq_getElem?_getD,hc];rfl
            show some (Value.int .u8 ((s.getD j 0).toNat:Int))=_
            rw [hg]
        refine hn _ _ _ ⟨h4,?_,?_,?_⟩
        · refine hm.push (by rw [Lib.bytesWorld_size];omega) (fun k hk b hb=>Lib.bytesWorld_at_old w e _ b ((hm.holds k hk).lt hb)) ⟨by simp,some ⟨w.heap.size,0,none⟩,_,rfl,?_,by simp,fun _=>⟨rfl,by rw [Lib.bytesWorld_size];simp,hden⟩⟩ (fun b hb=>?_)
          · exact grownCap_ge w s.length 0 e
          · simp [Blk.foot,Blk.bn] at hb
            omega
        · exact hf.then (T:=fun _=>False) ⟨rfl,rfl,rfl,by rw [Lib.bytesWorld_size];omega,fun k hk _=>Lib.bytesWorld_at_old w e _ k hk⟩ fun i hi=>hi.elim
        · refine hr.push rfl fun b hb=>?_
          simp [Blk.bn] at hb
          have:=hf.size
          omega
      · exact h1.elim
    · exact plain h1
  | typeAssert x xt to ok =>
    simp only [opX] at h
    obtain ⟨u,h1,h2⟩:=aF hs h
    split at h1
    · rename_i t1 v k hk
      split at h1
      · rename_i he _
        subst he
        unfold Oper.wp
        have:(execOp a.eval { dst:=dst,op:=.typeAssert x xt t1 true,type:=ty,pos:=pos,after:=after,guard:=guard }).run P w = .ok (.value (AV.tup [v,.bool true]).den) w:=by
          simp only [execOp,h2,AV.den,Instr.typeAssert,Sem.run_bind,run_underlying hk,Result.andThen_ok,if_true]
          rfl
        rw [this,Oper.upon_value]
        exact hn (.tup [v,.bool true]) m w ⟨h1,hm,hf,hr⟩
      · exact h1.elim
    · exact h1.elim
  | _=>exact plain h
theorem li {w0:World} {S:Own} {ops:Array Oper} {l:List Oper} {sl:List AV} {m:List Blk} {Q:Post} (h:opsX P ops l sl m Q) {a:Act} {w:World} (hsim:Sim w0 S sl m a w)
    {R:Exit→Act→World→Prop} (hk:∀ e sl m a w,Q e sl m→Sim w0 S sl m a w→R e a w):wpList P ops R l a w:=by
  induction l generalizing sl m a w with
  | nil=>exact hk _ _ _ _ _ h hsim
  | cons o rest ih =>
    simp only [opsX] at h
    have run:(opX P sl m o.op (fun v m'=>dstK sl o.dst v fun sl'=>opsX P ops rest sl' m' Q) fun ch m'=>Q (.panic ch) sl m')→o.wp P a w (wpList P ops R rest) R:=fun h =>
      kL hsim.slots hsim.mem hsim.fr hsim.fresh h (fun v m' w' hl=>by
        obtain ⟨sl',h1,h2⟩:=aI hl.k hsim.slots
        exact ih h1 (hsim.step h2 hl.mem hl.fr hl.fresh)) fun ch m' w' hl=>hk _ _ _ _ _ hl.k ⟨hsim.slots,hsim.defers,hl.mem,hl.fr,hl.fresh⟩
    unfold wpList
    split at h
    · rename_i hg
      rw [if_pos (by simp [Region.wanted,hg])]
      exact .inl (run h)
    · rename_i j want hg
      rcases ad h hsim.slots hg with ⟨h1,h2⟩ | ⟨h1,h2⟩
      · rw [if_pos h1]
        exact .inl (run h2)
      · rw [if_neg (by simp [h1])]
        obtain ⟨sl',h3,h4⟩:=aI h2 hsim.slots
        exact ih h3 (hsim.step h4 hsim.mem hsim.fr hsim.fresh)
theorem eS {w0:World} {S:Own} {c:Code}:∀ {sl:List AV} {m:List Blk} {Q:Post},codeX P c sl m Q→∀ {a:Act} {w:World},Sim w0 S sl m a w →
    c.wp P (fun e a w=>∃ sl m,Q e sl m∧Sim w0 S sl m a w) a w:=by
  induction c with
  | skip=>intro sl m Q h a w hs;exact wp_skip ⟨_,_,h,hs⟩
  | region id ops draw =>
    intro sl m Q h a w hs
    cases draw with
    | false =>
      exact wp_region_list (li h hs fun e sl m a w h1 h2=>⟨sl,m,h1,h2⟩)
    | true =>
      simp only [codeX] at h
      unfold jl at h
      exact h id w0 S a w hs
  | seq x y ihx ihy =>
    intro sl m Q h a w hs
    refine wp_seq (wp_mono (ihx h hs) fun e a w hq=>?_)
    obtain ⟨sl',m',h1,h2⟩:=hq
    cases e with
    | normal=>exact ihy h1 h2
    | _=>exact ⟨sl',m',h1,h2⟩
  | cond c x y ihx ihy =>
    intro sl m Q h a w hs
    obtain ⟨v,h1,h2⟩:=aF hs.slots h
    cases v<;>try exact h1.elim
    rename_i t
    simp only [cL] at h1
    refine wp_cond_split (t:=t) (by rw [h2];rfl) (fun ht=>ihx (h1.1 ht) hs) (fun ht=>ihy (h1.2 ht) hs)
  | block id c ih =>
    intro sl m Q h a w hs
    refine wp_block (wp_mono (ih h hs) fun e a w hq=>?_)
    obtain ⟨sl',m',h1,h2⟩:=hq
    cases e with
    | exit j =>
      simp only [Exit.inBlock]
      split at h1
      · rename_i hj;injection hj with hj;subst hj
        split at h1
        · rename_i heq _;rw [if_pos heq];exact ⟨sl',m',h1,h2⟩
        · rename_i heq _;rw [if_neg heq];exact ⟨sl',m',h1,h2⟩
      · rename_i hne;exact (hne _ rfl).elim
    | _=>exact ⟨sl',m',h1,h2⟩
  | loop c ih =>
    intro sl m Q h a w hs
    simp only [codeX] at h
    unfold NLoop at h
    rcases h with ⟨α,ok,s,mm,μ,hin,hround⟩ | ⟨n,hn⟩
    rotate_left
    · refine wp_loop_rounds n ?_
      induction n generalizing sl m a w with
      | zero=>exact hn.elim
      | succ n ihn =>
        rw [rounds_succ]
        refine wp_mono (ih hn hs) fun e a w hq=>?_
        obtain ⟨sl',m',h3,h4⟩:=hq
        cases e with
        | normal=>exact ihn h4 h3
        | _=>exact ⟨sl',m',h3,h4⟩
    obtain ⟨x0,h0,h1,h2⟩:=hin ⟨w,hs.mem⟩
    refine wp_loop_ghost (fun n a w=>∃ x,ok x∧μ x=n∧Sim w0 S (s x) (mm x) a w) (μ x0) ⟨x0,h0,rfl,hs.fits h1 h2⟩ ?_
    rintro n a w ⟨x,hx,rfl,hsx⟩
    refine wp_mono (ih (hround x hx) hsx) fun e a w hq=>?_
    obtain ⟨sl',m',h3,h4⟩:=hq
    cases e with
    | normal =>
      obtain ⟨x',h5,h6,h7,h8⟩:=h3.get ⟨w,h4.mem⟩
      exact ⟨μ x',h6,x',h5,rfl,h4.fits h7 h8⟩
    | _=>exact ⟨sl',m',h3,h4⟩
  | rangeFunc=>intro sl m Q h;exact h.elim
  | exit id=>intro sl m Q h a w hs;exact wp_exit ⟨_,_,h,hs⟩
  | scope c ih =>
    intro sl m Q h a w hs
    refine wp_scope_straight (wp_mono (ih h hs) fun e a w hq=>?_)
    obtain ⟨sl',m',h1,h2⟩:=hq
    cases e with
    | goto l=>exact h1.elim
    | _=>exact ⟨sl',m',h1,h2⟩
  | label l=>intro sl m Q h a w hs;exact wp_label ⟨_,_,h,hs⟩
  | goto l=>intro sl m Q h;exact h.elim
  | ret=>intro sl m Q h a w hs;exact wp_ret ⟨_,_,h,hs⟩
  | refuse why=>intro sl m Q h;exact h.elim
theorem az {f : FuncId} {fn : Func} (hf : P.funcs[f]? = some fn) (hb : fn.body.isSome = true) (hn : (fn.name == "runtime.NumGoroutine") = false) {args : List AV} {m : List Blk} {K : AV → List Blk → Prop} {Kp : List PanicEntry → List Blk → Prop}
    (h:ir P fn args m K Kp):aG P f args m K Kp:=by
  rw [cK]
  refine ⟨enters_of hf hb hn,fun w hm=>?_⟩
  unfold ir at h
  split at h
  · rename_i c hc
    obtain ⟨hlen,h⟩:=db h
    have hsim:Sim w (own m) (args++List.replicate (fn.ntmps - args.length) .any) m { tmps:=(denL args).toArray++Array.replicate (fn.ntmps - (denL args).toArray.size) undef,defers:=[] } w :=
      ⟨ee hlen,rfl,hm,Fr.refl _ w,fun b hb=>.inl hb,fun b hb=>.inl hb⟩
    refine calls_of_wp hf hc (wp_mono (eS h hsim) fun e a w' hq=>?_)
    obtain ⟨sl',m',h1,h2⟩:=hq
    cases e with
    | normal =>
      obtain ⟨xs,h3,h4⟩:=an h2.slots h1
      exact ⟨h2.defers,_,h4 w' h2.mem,.inl ⟨_,_,bc h3,rfl,h2.mem,h2.fr,h2.fresh⟩⟩
    | ret =>
      obtain ⟨xs,h3,h4⟩:=an h2.slots h1
      exact ⟨h2.defers,_,h4 w' h2.mem,.inl ⟨_,_,bc h3,rfl,h2.mem,h2.fr,h2.fresh⟩⟩
    | exit id=>exact h1.elim
    | goto l=>exact h1.elim
    | panic ch=>exact ⟨h2.defers,.inr ⟨_,_,h1,rfl,h2.mem,h2.fr,h2.fresh⟩⟩
    | outgrown=>exact h1.elim
  · exact h.elim
theorem iR {m mL:List Blk} (idx:List Nat) (hn:idx.Nodup) (hmL:idx.map (fun i=>m[i]?)=mL.map some) :
    (∀ w,MemOk m w→MemOk mL w∧∀ b,wrs mL b→wrs m b)∧∀ bs:List Blk,idx.length≤bs.length→∀ w w',MemOk m w→MemOk bs w'→Fr (wrs mL) w w'→Fresh (own mL) w bs→MemOk (rep m idx bs) w'∧Fresh (own m) w (rep m idx bs):=by
  have hlen:idx.length=mL.length:=by simpa using congrArg List.length hmL
  have hat:∀ t:Nat,∀ k,mL[t]?=some k→∃ i,idx[t]?=some i∧m[i]?=some k:=fun t k hk=>by
    have e:=congrArg (fun l=>l[t]?) hmL
    simp only [List.getElem?_map,hk,Option.map_some] at e
    rcases hi:idx[t]? with _ | i
    · rw [hi] at e;simp at e
    · rw [hi] at e
      simp only [Option.map_some,Option.some.injEq] at e
      exact ⟨i,rfl,e⟩
  have hlt:∀ i∈idx,i<m.length:=fun i hi=>by
    obtain ⟨t,ht,rfl⟩:=List.getElem_of_mem hi
    obtain ⟨i',h1,h2⟩:=hat t mL[t] (List.getElem?_eq_getElem (by omega))
    rw [List.getElem?_eq_getElem ht] at h1
    cases h1
    exact (List.getElem?_eq_some_iff.1 h2).1
  have hmem:∀ k∈mL,∃ i∈idx,m[i]?=some k:=fun k hk=>by
    obtain ⟨t,ht,rfl⟩:=List.getElem_of_mem hk
    obtain ⟨i,h1,h2⟩:=hat t _ (List.getElem?_eq_getElem ht)
    exact ⟨i,List.mem_of_getElem? h1,h2⟩
  have hwrs:∀ b,wrs mL b→wrs m b:=fun b ⟨k,hk,h1,h2⟩=>by
    obtain ⟨i,_,h3⟩:=hmem k hk
    exact ⟨k,List.mem_of_getElem? h3,h1,h2⟩
  refine ⟨(fun w hm=>⟨⟨fun k hk=>?_,fO fun i j x y hij hx hy=>?_⟩,hwrs⟩),?_⟩
  · obtain ⟨i,_,h3⟩:=hmem k hk
    exact hm.holds k (List.mem_of_getElem? h3)
  · obtain ⟨i',h1,h2⟩:=hat i x hx
    obtain ⟨j',h3,h4⟩:=hat j y hy
    refine cB hm.sep (fun e=>?_) h2 h4
    subst e
    obtain ⟨hi,e1⟩:=List.getElem?_eq_some_iff.1 h1
    obtain ⟨hj,e2⟩:=List.getElem?_eq_some_iff.1 h3
    exact List.pairwise_iff_getElem.1 hn i j hi hj hij (e1.trans e2.symm)
  intro bs hl w w' hm hm' hf hfr
  have hylt:∀ y∈m,∀ b,y.foot b→b<w.heap.size:=fun y hy b hb=>(hm.holds y hy).lt hb
  have hold:∀ j y,j ∉ idx→m[j]?=some y→∀ b,y.foot b→¬ wrs mL b:=fun j y hj hy b hb ⟨k,hk,hkw,hkb⟩=>by
    obtain ⟨i,hi,h3⟩:=hmem k hk
    exact cB hm.sep (i:=i) (j:=j) (fun e=>hj (e ▸ hi)) h3 hy (.inl hkw) b hkb hb
  have hfoot:∀ j y,j ∉ idx→m[j]?=some y→y.wr=true→∀ b,y.foot b→¬ foots mL b:=fun j y hj hy hyw b hb ⟨k,hk,hkb⟩=>by
    obtain ⟨i,hi,h3⟩:=hmem k hk
    exact cB hm.sep (i:=i) (j:=j) (fun e=>hj (e ▸ hi)) h3 hy (.inr hyw) b hkb hb
  have hbo:∀ t x j y,bs[t]?=some x→j ∉ idx→m[j]?=some y→Sep x y:=fun t x j y hx hj hy=>fun hww b hb1 hb2=>by
    have hnew:b<w.heap.size:=hylt y (List.mem_of_getElem? hy) b hb2
    rcases hww with hw | hw
    · rcases hfr.1 b ⟨x,List.mem_of_getElem? hx,hw,hb1⟩ with h3 | h3
      · exact hold j y hj hy b hb2 h3
      · omega
    · rcases hfr.2 b ⟨x,List.mem_of_getElem? hx,hb1⟩ with h3 | h3
      · exact hfoot j y hj hy hw b hb2 h3
      · omega
  have hfoots:∀ b,foots mL b→foots m b:=fun b ⟨k,hk,hkb⟩=>by
    obtain ⟨i,_,h3⟩:=hmem k hk
    exact ⟨k,List.mem_of_getElem? h3,hkb⟩
  refine ⟨⟨fun k hk=>?_,fO fun i j x y hij hx hy=>?_⟩,fun b ⟨k,hk,hkw,hkb⟩=>?_,fun b ⟨k,hk,hkb⟩=>?_⟩
  · obtain ⟨j,hj⟩:=List.getElem?_of_mem hk
    rcases cG idx m bs j k hn hlt hl hj with ⟨t,ht,_⟩ | ⟨h3,h4⟩
    · exact hm'.holds k (List.mem_of_getElem? ht)
    · refine (hm.holds k (List.mem_of_getElem? h4)).keep hf.size fun b hb=>?_
      exact hf.block b (hylt k (List.mem_of_getElem? h4) b hb) (hold j k h3 h4 b hb)
  · rcases cG idx m bs i x hn hlt hl hx with ⟨t,ht,hti⟩ | ⟨h3,h4⟩
    · rcases cG idx m bs j y hn hlt hl hy with ⟨u,hu,huj⟩ | ⟨h5,h6⟩
      · exact cB hm'.sep (fun e=>by subst e;omega) ht hu
      · exact hbo t x j y ht h5 h6
    · rcases cG idx m bs j y hn hlt hl hy with ⟨u,hu,huj⟩ | ⟨h5,h6⟩
      · exact (hbo u y i x hu h3 h4).symm
      · exact cB hm.sep (by omega) h4 h6
  · obtain ⟨j,hj⟩:=List.getElem?_of_mem hk
    rcases cG idx m bs j k hn hlt hl hj with ⟨t,ht,_⟩ | ⟨h3,h4⟩
    · rcases hfr.1 b ⟨k,List.mem_of_getElem? ht,hkw,hkb⟩ with h5 | h5
      · exact .inl (hwrs b h5)
      · exact .inr h5
    · exact .inl ⟨k,List.mem_of_getElem? h4,hkw,hkb⟩
  · obtain ⟨j,hj⟩:=List.getElem?_of_mem hk
    rcases cG idx m bs j k hn hlt hl hj with ⟨t,ht,_⟩ | ⟨h3,h4⟩
    · rcases hfr.2 b ⟨k,List.mem_of_getElem? ht,hkb⟩ with h5 | h5
      · exact .inl (hfoots b h5)
      · exact .inr h5
    · exact .inl ⟨k,List.mem_of_getElem? h4,hkb⟩
theorem aG.frame {f:FuncId} {args args':List AV} {m mL:List Blk} {K KL:AV→List Blk→Prop} {Kp KpL:List PanicEntry→List Blk→Prop} (h:aG P f args' mL KL KpL) (hargs:denL args'=denL args)
    (hin:∀ w,MemOk m w→MemOk mL w∧∀ b,wrs mL b→wrs m b)
    (hK:∀ r mL',KL r mL'→∃ r' m',r'.den=r.den∧K r' m'∧∀ w w',MemOk m w→MemOk mL' w'→Fr (wrs mL) w w'→Fresh (own mL) w mL'→MemOk m' w'∧Fresh (own m) w m')
    (hP:∀ ch mL',KpL ch mL'→∃ m',Kp ch m'∧∀ w w',MemOk m w→MemOk mL' w'→Fr (wrs mL) w w'→Fresh (own mL) w mL'→MemOk m' w'∧Fresh (own m) w m'):aG P f args m K Kp:=by
  rw [cK] at h ⊢
  refine ⟨h.1,fun w hm=>?_⟩
  have fr:∀ {w':World},Fr (wrs mL) w w'→Fr (wrs m) w w':=fun h4=>⟨h4.os,h4.tape,h4.output,h4.size,fun k hk hs=>h4.block k hk (fun ht=>hs ((hin w hm).2 k ht))⟩
  have h2:=(h.2 w (hin w hm).1).mono (R':=fun e w'=>(∃ r m',K r m'∧e = .returned r.den∧MemOk m' w'∧Fr (wrs m) w w'∧Fresh (own m) w m')∨∃ ch m',Kp ch m'∧e = .panicked ch∧MemOk m' w'∧Fr (wrs m) w w'∧Fresh (own m) w m') fun e w' hq=>by
    rcases hq with ⟨r,mL',h1,rfl,h3,h4,h5⟩ | ⟨ch,mL',h1,rfl,h3,h4,h5⟩
    · obtain ⟨r',m',h6,h7,h8⟩:=hK r mL' h1
      obtain ⟨h9,h10⟩:=h8 w w' hm h3 h4 h5
      exact .inl ⟨r',m',h7,by rw [h6],h9,fr h4,h10⟩
    · obtain ⟨m',h7,h8⟩:=hP ch mL' h1
      obtain ⟨h9,h10⟩:=h8 w w' hm h3 h4 h5
      exact .inr ⟨ch,m',h7,rfl,h9,fr h4,h10⟩
  rw [hargs] at h2
  exact h2
theorem aG.subw {f:FuncId} {args:List AV} {m:List Blk} {K KL:AV→List Blk→Prop} {Kp KpL:List PanicEntry→List Blk→Prop} (idx:List Nat) (args':List AV) (mL:List Blk) (h:aG P f args' mL KL KpL) (hargs:denL args'=denL args)
    (hn:idx.Nodup) (hmL:idx.map (fun i=>m[i]?)=mL.map some)
    (hK:∀ r bs,KL r bs→idx.length≤bs.length∧∃ r',r'.den=r.den∧dy m idx bs (K r'))
    (hP:∀ ch bs,KpL ch bs→idx.length≤bs.length∧dy m idx bs (Kp ch)):aG P f args m K Kp:=by
  obtain ⟨h1,h2⟩:=iR (mL:=mL) idx hn hmL
  refine h.frame hargs h1 (fun r bs hr=>?_) fun ch bs hr=>?_
  · obtain ⟨h3,r',h4,h5⟩:=hK r bs hr
    exact ⟨r',_,h4,cu _ _ _ h5,h2 bs h3⟩
  · obtain ⟨h3,h5⟩:=hP ch bs hr
    exact ⟨_,cu _ _ _ h5,h2 bs h3⟩
theorem aG.fits {f:FuncId} {args:List AV} {m:List Blk} {K K':AV→List Blk→Prop} {Kp Kp':List PanicEntry→List Blk→Prop} (h:aG P f args m K Kp)
    (hk:∀ r m',K r m'→∃ r' m'',r'.den=r.den∧MemFits m' m''∧K' r' m'') (hp:∀ ch m',Kp ch m'→∃ m'',MemFits m' m''∧Kp' ch m''):aG P f args m K' Kp':=by
  rw [cK] at h ⊢
  refine ⟨h.1,fun w hm=>(h.2 w hm).mono fun e w' hq=>?_⟩
  rcases hq with ⟨r,m',h1,rfl,h3,h4,h5⟩ | ⟨r,m',h1,rfl,h3,h4,h5⟩
  · obtain ⟨r',m'',h6,h7,h8⟩:=hk r m' h1
    exact .inl ⟨r',m'',h8,by rw [h6],(h7 w' h3).1,h4,fun b hb=>h5.1 b ((h7 w' h3).2.1 b hb),fun b hb=>h5.2 b ((h7 w' h3).2.2 b hb)⟩
  · obtain ⟨m'',h7,h8⟩:=hp r m' h1
    exact .inr ⟨r,m'',h8,rfl,(h7 w' h3).1,h4,fun b hb=>h5.1 b ((h7 w' h3).2.1 b hb),fun b hb=>h5.2 b ((h7 w' h3).2.2 b hb)⟩
theorem gCX {f:FuncId} {args:List AV} {m:List Blk} {K:AV→List Blk→Prop} {Kp:List PanicEntry→List Blk→Prop} (h:aG P f args m K Kp):aG P f args m K Kp:=h
theorem gOX {ops:Array Oper} {l:List Oper} {sl:List AV} {m:List Blk} {Q:Post} (h:opsX P ops l sl m Q):opsX P ops l sl m Q:=h
theorem gXX {c:Code} {sl:List AV} {m:List Blk} {Q:Post} (h:codeX P c sl m Q):codeX P c sl m Q:=h
def jq (P:Program) (b:Code) (Q:Post):Post:=fun e sl m=>match e with
  | .normal=>codeX P b sl m Q
  | e=>Q e sl m
def nN (P:Program) (fn:Func) (R:AV→List Blk→Prop) (Rp:List PanicEntry→List Blk→Prop):Post:=fun e sl m=>match e with
  | .normal=>resK P m sl fn.results.toList fun xs=>retK xs fun r=>R r m
  | .ret=>resK P m sl fn.results.toList fun xs=>retK xs fun r=>R r m
  | .panic ch=>Rp ch m
  | _=>False
end
section
variable {P:Program} {Q:Post} {sl:List AV} {m:List Blk} {a b c:Code} {id j:Nat} {ch:List PanicEntry}
theorem gRX {fn:Func} {R:AV→List Blk→Prop} {Rp:List PanicEntry→List Blk→Prop} {e:Exit} (h:nN P fn R Rp e sl m):nN P fn R Rp e sl m:=h
theorem gFX {fn:Func} {args:List AV} {R:AV→List Blk→Prop} {Rp:List PanicEntry→List Blk→Prop} (h:ir P fn args m R Rp):ir P fn args m R Rp:=h
theorem gK {fn:Func} {c:Code} {args:List AV} {R:AV→List Blk→Prop} {Rp:List PanicEntry→List Blk→Prop} (hb:fn.body=some c) (h:∀ K:List AV→Prop,(∀ sl,codeX P c sl m (nN P fn R Rp)→K sl)→argK args fn.ntmps K):ir P fn args m R Rp:=by
  unfold ir
  rw [hb]
  exact h _ fun _ h=>h
theorem jF (h:codeX P a sl m (jq P b Q)):codeX P (.seq a b) sl m Q:=h
theorem fN (h:codeX P a sl m (fD id Q)):codeX P (.block id a) sl m Q:=h
theorem eo {l:List Oper} (h:opsX P l.toArray l sl m Q):codeX P (.region id l.toArray false) sl m Q:=by
  simp only [codeX]
  exact h
theorem gJ (h:Q .normal sl m):codeX P .skip sl m Q:=h
theorem gL (h:Q (.exit id) sl m):codeX P (.exit id) sl m Q:=h
theorem jG (h:Q .ret sl m):codeX P .ret sl m Q:=h
theorem gM {o:Operand} (h:∀ A B:Prop,(codeX P a sl m Q→A)→(codeX P b sl m Q→B)→evK sl o fun v=>match v with
    | .bool x=>NIf x A B
    | _=>False):codeX P (.cond o a b) sl m Q:=h _ _ (fun h=>h) (fun h=>h)
theorem gG (h:codeX P b sl m Q):jq P b Q .normal sl m:=h
theorem dR (h:Q (.exit j) sl m):jq P b Q (.exit j) sl m:=h
theorem dd (h:Q .ret sl m):jq P b Q .ret sl m:=h
theorem dC (h:Q (.panic ch) sl m):jq P b Q (.panic ch) sl m:=h
theorem dF (h:Q (.panic ch) sl m):fD id Q (.panic ch) sl m:=h
theorem dD {α:Type} {ok:α→Prop} {s:α→List AV} {mm:α→List Blk} {μ:α→Nat} {x:α} (h:Q (.panic ch) sl m):cD ok s mm μ x Q (.panic ch) sl m:=h
theorem eA {fn:Func} {R:AV→List Blk→Prop} {Rp:List PanicEntry→List Blk→Prop} {rs:List ResultVar} (hr:fn.results.toList=rs) (h:∀ K:AV→Prop,(∀ r,R r m→K r)→resK P m sl rs fun xs=>retK xs K):nN P fn R Rp .ret sl m:=by
  show resK P m sl fn.results.toList _
  rw [hr]
  exact h _ fun _ h=>h
theorem dE {fn:Func} {R:AV→List Blk→Prop} {Rp:List PanicEntry→List Blk→Prop} {rs:List ResultVar} (hr:fn.results.toList=rs) (h:∀ K:AV→Prop,(∀ r,R r m→K r)→resK P m sl rs fun xs=>retK xs K):nN P fn R Rp .normal sl m:=by
  show resK P m sl fn.results.toList _
  rw [hr]
  exact h _ fun _ h=>h
theorem dS {fn:Func} {R:AV→List Blk→Prop} {Rp:List PanicEntry→List Blk→Prop} (h:Rp ch m):nN P fn R Rp (.panic ch) sl m:=h
theorem oV {α:Type} (ok:α→Prop) (s:α→List AV) (mm:α→List Blk) (μ:α→Nat) (x:α) (hx:ok x) (hs:FitsSl sl (s x)) (hm:MemFits m (mm x))
    (hround:∀ x,ok x→codeX P a (s x) (mm x) (cD ok s mm μ x Q)):codeX P (.loop a) sl m Q:=NLoop.by ok s mm μ (fun _=>⟨x,hx,hs,hm⟩) hround
theorem jw {α:Type} (ok:α→Prop) (us:α→List Up) (ms:α→List UpB) (μ:α→Nat) (x:α) (hx:ok x) (hs:FitsSl sl (cQ sl (us x))) (hm:MemFits m (autoM m (ms x)))
    (hround:∀ x,ok x→∀ K:List AV→List Blk→Prop,(∀ sl' m',codeX P a sl' m' (cD ok (fun x=>cQ sl (us x)) (fun x=>autoM m (ms x)) μ x Q)→K sl' m')→fp sl (us x) fun sl'=>dV m (ms x) fun m'=>K sl' m'):codeX P (.loop a) sl m Q :=
  oV ok (fun x=>cQ sl (us x)) (fun x=>autoM m (ms x)) μ x hx hs hm fun y hy=>by
    have h:=hround y hy (fun sl' m'=>codeX P a sl' m' (cD ok (fun x=>cQ sl (us x)) (fun x=>autoM m (ms x)) μ y Q)) fun _ _ h=>h
    exact ar _ _ (ba _ _ h)
section
variable {ops:Array Oper} {rest:List Oper}
theorem jI (h:Q .normal sl m):opsX P ops [] sl m Q:=h
theorem jH {d:Option Tmp} {op:Op} {t:TypeId} {p:String} {e:Array Edge} (h:∀ (K:List AV→List Blk→Prop) (Kp:List PanicEntry→List Blk→Prop),(∀ sl m,opsX P ops rest sl m Q→K sl m)→(∀ ch m,Q (.panic ch) sl m→Kp ch m)→opX P sl m op (fun v m'=>dstK sl d v fun sl'=>K sl' m') Kp) :
    opsX P ops (⟨d,op,t,p,e,none⟩::rest) sl m Q:=h _ _ (fun _ _ h=>h) fun _ _ h=>h
end
end
section
variable {P:Program} {l:List Oper} {n i:Nat} {done:List Nat} {sl:List AV} {m:List Blk} {Q:Post} {id:Nat}
def q7 (w0:World) (S:Own) (Q:Post):Exit→Act→World→Prop:=fun e a w=>∃ sl m,Q e sl m∧Sim w0 S sl m a w
@[irreducible] def ej (P:Program) (l:List Oper) (n:Nat) (done:List Nat) (sl:List AV) (m:List Blk) (Q:Post):Prop :=
  ∀ (w0:World) (S:Own) (a:Act) (w:World),Sim w0 S sl m a w→wpAny P .any l.toArray (q7 w0 S Q) n (aL l.length done) a w
@[irreducible] def du (P:Program) (l:List Oper) (n:Nat) (done:List Nat) (sl:List AV) (m:List Blk) (Q:Post) (rs:List (Nat × Oper)):Prop :=
  ∀ x∈rs,∀ (w0:World) (S:Own) (a:Act) (w:World),Sim w0 S sl m a w→l.toArray[x.1]?=some x.2→wpOp P l.toArray (q7 w0 S Q) x.1 (wpAny P .any l.toArray (q7 w0 S Q) n (aL l.length (x.1::done))) a w
theorem rx (h:ej P l n done sl m Q):ej P l n done sl m Q:=h
theorem rj {rs:List (Nat × Oper)} (h:du P l n done sl m Q rs):du P l n done sl m Q rs:=h
theorem mw (h1:P.follows .mixedOrders=true) (n:Nat) (hn:l.length=n) (h:ej P l n [] sl m Q):codeX P (.region id l.toArray true) sl m Q:=by
  subst hn
  simp only [codeX]
  unfold jl
  intro id w0 S a w hs
  unfold ej at h
  refine wp_region_any h1 ?_
  have:=h w0 S a { w with drawn:=w.drawn+1 } ⟨hs.slots,hs.defers,hs.mem.keep (Nat.le_refl _) (fun _ _ _ _=>rfl),⟨hs.fr.os,hs.fr.tape,hs.fr.output,hs.fr.size,hs.fr.block⟩,hs.fresh⟩
  show wpAny P .any l.toArray (q7 w0 S Q) _ _ a _
  simpa [aL] using this
theorem oT {rs:List (Nat × Oper)} (hr:readys done 0 l=rs) (hc:ef l done rs=true) (hne:rs≠[]) (h:du P l n done sl m Q rs):ej P l (n+1) done sl m Q:=by
  unfold ej
  intro w0 S a w hs
  have hc:Region.ready .any l.toArray (aL l.length done)=rs.map (·.1):=by simpa [ef] using hc
  unfold wpAny
  rw [hc]
  refine ⟨fun e=>(hne (by simpa using e)).elim,fun i hi=>?_⟩
  obtain ⟨x,hx,rfl⟩:=List.mem_map.1 hi
  obtain ⟨t,h1,h2⟩:=cz l 0 x (hr ▸ hx)
  unfold du at h
  exact h x hx w0 S a w hs (by rw [h1];simpa using h2)
theorem oU (_hr:readys done 0 l=[]) (hc:ef l done []=true) (h:Q .normal sl m):ej P l n done sl m Q:=by
  unfold ej
  intro w0 S a w hs
  have hc:Region.ready .any l.toArray (aL l.length done)=[]:=by simpa [ef] using hc
  cases n with
  | zero=>exact ⟨hc,sl,m,h,hs⟩
  | succ n=>exact ⟨fun _=>⟨sl,m,h,hs⟩,by rw [hc];simp⟩
theorem nD:du P l n done sl m Q []:=by unfold du;intro x hx;cases hx
theorem ju {rs:List (Nat × Oper)} {d:Option Tmp} {op:Op} {t:TypeId} {p:String} {e:Array Edge}
    (h:∀ (K:List AV→List Blk→Prop) (Kp:List PanicEntry→List Blk→Prop),(∀ sl m,ej P l n (i::done) sl m Q→K sl m)→(∀ ch m,Q (.panic ch) sl m→Kp ch m)→opX P sl m op (fun v m'=>dstK sl d v fun sl'=>K sl' m') Kp) (hr:du P l n done sl m Q rs):du P l n done sl m Q ((i,⟨d,op,t,p,e,none⟩)::rs):=by
  unfold du at *
  intro x hx
  rcases List.mem_cons.1 hx with rfl | hx
  · intro w0 S a w hs ho
    unfold wpOp
    simp only [ho]
    rw [if_pos (show Region.wanted ⟨d,op,t,p,e,none⟩ (yielded l.toArray a.tmps)=true from rfl)]
    refine .inl (kL hs.slots hs.mem hs.fr hs.fresh (o:=⟨d,op,t,p,e,none⟩) (h _ _ (fun _ _ h=>h) fun _ _ h=>h) (fun v m' w' hl=>?_) fun ch m' w' hl=>⟨sl,m',hl.k,hs.slots,hs.defers,hl.mem,hl.fr,hl.fresh⟩)
    obtain ⟨sl',h1,h2⟩:=aI hl.k hs.slots
    unfold ej at h1
    exact h1 w0 S _ _ (hs.step h2 hl.mem hl.fr hl.fresh)
  · exact hr x hx
end
theorem qB {G G':Prop} (r:G') (h:bH G'→G:=by
  intro r
  (first|((first|((with_reducible refine gV ?_);(first|((with_reducible first|refine NV.quo ?s ?_|refine NV.rem ?s ?_|refine NV.i64 ?s ?_|refine NV.u32 ?s ?_|refine NV.u8 ?s ?_|refine NV.u64 ?s ?_);case s=>omega)|(with_reducible first|refine NV.divk ?_|refine NV.modk ?_|refine NV.keep ?_)))|((with_reducible refine gI ?_);(first|with_reducible refine NIf.not_ ?_|((with_reducible refine NIf.decY ?s ?_);case s=>first|with_reducible rfl|assumption|omega)|((with_reducible refine NIf.decN ?s ?_);case s=>first|with_reducible rfl|assumption|omega)|((with_reducible refine NIf.yes ?s ?_);case s=>first|rfl|assumption)|((with_reducible refine NIf.no ?s ?_);case s=>first|rfl|assumption)))|((with_reducible refine gN ?_);(with_reducible first|refine NN.lit ?_|refine NN.cast ?_|refine NN.a1 ?_|refine NN.a2 ?_|refine NN.a3 ?_|refine NN.a4 ?_|refine NN.a5 ?_|refine NN.a6 ?_|refine NN.keep ?_))|((with_reducible refine gH ?_);((with_reducible refine NH.mk ?s ?_);case s=>(and_intros<;>first|with_reducible rfl|((with_reducible refine dL ?_);rfl)|((with_reducible refine fA ?_);rfl)|omega|assumption|exact Nat.le_of_ble_eq_true rfl|(simp only [List.length_append,List.length_cons,List.length_nil];omega)|rfl)))|(with_reducible refine NS.keep ?_)|(with_reducible refine NLd.of (by with_reducible assumption) ?_))<;>(conv=>whnf))|((refine aY.2 ⟨⟨?s1,?s2⟩,?_⟩;(case s1=>decide +kernel);(case s2=>decide +kernel))<;>(conv=>whnf)))
  exact r.go):G:=h ⟨r⟩
theorem rd {G G':Prop} (r:G') (h:bH G'→G:=by
  intro r
  (first|((with_reducible refine gOX ?_);(with_reducible first|refine jH ?_|refine st_opXg ?_)))
  exact r.go):G:=h ⟨r⟩
theorem sxX {G G':Prop} (r:G') (h:bH G'→G:=by
  intro r
  (repeat1' (first|(with_reducible first|refine hK _ _ ?_|refine hA ?_|refine hB ?_|refine hK _ ?_|refine hP _ _ ?_)|((first|((with_reducible refine gO ?_);(with_reducible first|refine z25 ?_|refine z26 ?_))|((with_reducible refine gP ?_);(with_reducible first|refine z27 ?_|refine z28 ?_))|((with_reducible refine gR ?_);(first|refine z31 rfl ?_|refine z32 rfl ?_))|((with_reducible refine gF ?_);(refine z33 rfl ?_))|((with_reducible refine gRX ?_);(first|refine eA rfl ?_|refine dE rfl ?_))|((with_reducible refine gFX ?_);(refine gK rfl ?_)));intro K hK;(conv=>whnf);(repeat (first|((first|((with_reducible refine gV ?_);(first|((with_reducible first|refine NV.quo ?s ?_|refine NV.rem ?s ?_|refine NV.i64 ?s ?_|refine NV.u32 ?s ?_|refine NV.u8 ?s ?_|refine NV.u64 ?s ?_);case s=>omega)|(with_reducible first|refine NV.divk ?_|refine NV.modk ?_|refine NV.keep ?_)))|((with_reducible refine gI ?_);(first|with_reducible refine NIf.not_ ?_|((with_reducible refine NIf.decY ?s ?_);case s=>first|with_reducible rfl|assumption|omega)|((with_reducible refine NIf.decN ?s ?_);case s=>first|with_reducible rfl|assumption|omega)|((with_reducible refine NIf.yes ?s ?_);case s=>first|rfl|assumption)|((with_reducible refine NIf.no ?s ?_);case s=>first|rfl|assumption)))|((with_reducible refine gN ?_);(with_reducible first|refine NN.lit ?_|refine NN.cast ?_|refine NN.a1 ?_|refine NN.a2 ?_|refine NN.a3 ?_|refine NN.a4 ?_|refine NN.a5 ?_|refine NN.a6 ?_|refine NN.keep ?_))|((with_reducible refine gH ?_);((with_reducible refine NH.mk ?s ?_);case s=>(and_intros<;>first|with_reducible rfl|((with_reducible refine dL ?_);rfl)|((with_reducible refine fA ?_);rfl)|omega|assumption|exact Nat.le_of_ble_eq_true rfl|(simp only [List.length_append,List.length_cons,List.length_nil];omega)|rfl)))|(with_reducible refine NS.keep ?_)|(with_reducible refine NLd.of (by with_reducible assumption) ?_))<;>(conv=>whnf))|((refine aY.2 ⟨⟨?s1,?s2⟩,?_⟩;(case s1=>decide +kernel);(case s2=>decide +kernel))<;>(conv=>whnf))));(with_reducible first|(refine hK _ _ ?_;clear hK K)|(refine hA ?_;clear hA hB A B)|(refine hB ?_;clear hA hB A B)|(refine hK _ ?_;clear hK K)))|((first|((with_reducible refine gOX ?_);(with_reducible first|refine jH ?_|refine st_opXg ?_)));intro K Kp hK hP;(conv=>whnf);(repeat (first|((first|((with_reducible refine gV ?_);(first|((with_reducible first|refine NV.quo ?s ?_|refine NV.rem ?s ?_|refine NV.i64 ?s ?_|refine NV.u32 ?s ?_|refine NV.u8 ?s ?_|refine NV.u64 ?s ?_);case s=>omega)|(with_reducible first|refine NV.divk ?_|refine NV.modk ?_|refine NV.keep ?_)))|((with_reducible refine gI ?_);(first|with_reducible refine NIf.not_ ?_|((with_reducible refine NIf.decY ?s ?_);case s=>first|with_reducible rfl|assumption|omega)|((with_reducible refine NIf.decN ?s ?_);case s=>first|with_reducible rfl|assumption|omega)|((with_reducible refine NIf.yes ?s ?_);case s=>first|rfl|assumption)|((with_reducible refine NIf.no ?s ?_);case s=>first|rfl|assumption)))|((with_reducible refine gN ?_);(with_reducible first|refine NN.lit ?_|refine NN.cast ?_|refine NN.a1 ?_|refine NN.a2 ?_|refine NN.a3 ?_|refine NN.a4 ?_|refine NN.a5 ?_|refine NN.a6 ?_|refine NN.keep ?_))|((with_reducible refine gH ?_);((with_reducible refine NH.mk ?s ?_);case s=>(and_intros<;>first|with_reducible rfl|((with_reducible refine dL ?_);rfl)|((with_reducible refine fA ?_);rfl)|omega|assumption|exact Nat.le_of_ble_eq_true rfl|(simp only [List.length_append,List.length_cons,List.length_nil];omega)|rfl)))|(with_reducible refine NS.keep ?_)|(with_reducible refine NLd.of (by with_reducible assumption) ?_))<;>(conv=>whnf))|((refine aY.2 ⟨⟨?s1,?s2⟩,?_⟩;(case s1=>decide +kernel);(case s2=>decide +kernel))<;>(conv=>whnf))));(with_reducible first|(refine hK _ _ ?_;clear hP hK Kp K)|(refine hP _ _ ?_;clear hP hK Kp K)))|((with_reducible refine gO ?_);(with_reducible first|refine z0 ?_))|((with_reducible refine gP ?_);(with_reducible first|refine z24 ?_))|((with_reducible refine gX ?_);(with_reducible first|refine z3 ?_|refine z4 ?_|refine z5 ?_|refine z6 ?_|refine z7 ?_|refine z8 ?_|refine z14 ?_|refine z15 ?_))|(with_reducible first|refine z1 ?_|refine z2 ?_|refine z9 ?_|refine z10 ?_|refine z11 ?_|refine z12 ?_|refine z13 ?_|refine z16 ?_|refine z17 ?_|refine z18 ?_|refine z19 ?_|refine z20 ?_|refine z21 ?_|refine z22 ?_|refine z23 ?_|refine gG ?_|refine dR ?_|refine dd ?_|refine dC ?_|refine dF ?_|refine st_scope_panic ?_|refine dD ?_)|((with_reducible refine gB ?_);(refine z30 (by decide) ?_))|((with_reducible refine gOX ?_);(with_reducible first|refine jI ?_))|((with_reducible refine gXX ?_);(with_reducible first|refine jF ?_|refine eo ?_|refine fN ?_|refine gJ ?_|refine gL ?_|refine jG ?_|refine st_scopeX ?_|refine st_labelX ?_))|((with_reducible refine gRX ?_);(with_reducible refine dS ?_))|((first|((with_reducible refine gV ?_);(first|((with_reducible first|refine NV.quo ?s ?_|refine NV.rem ?s ?_|refine NV.i64 ?s ?_|refine NV.u32 ?s ?_|refine NV.u8 ?s ?_|refine NV.u64 ?s ?_);case s=>omega)|(with_reducible first|refine NV.divk ?_|refine NV.modk ?_|refine NV.keep ?_)))|((with_reducible refine gI ?_);(first|with_reducible refine NIf.not_ ?_|((with_reducible refine NIf.decY ?s ?_);case s=>first|with_reducible rfl|assumption|omega)|((with_reducible refine NIf.decN ?s ?_);case s=>first|with_reducible rfl|assumption|omega)|((with_reducible refine NIf.yes ?s ?_);case s=>first|rfl|assumption)|((with_reducible refine NIf.no ?s ?_);case s=>first|rfl|assumption)))|((with_reducible refine gN ?_);(with_reducible first|refine NN.lit ?_|refine NN.cast ?_|refine NN.a1 ?_|refine NN.a2 ?_|refine NN.a3 ?_|refine NN.a4 ?_|refine NN.a5 ?_|refine NN.a6 ?_|refine NN.keep ?_))|((with_reducible refine gH ?_);((with_reducible refine NH.mk ?s ?_);case s=>(and_intros<;>first|with_reducible rfl|((with_reducible refine dL ?_);rfl)|((with_reducible refine fA ?_);rfl)|omega|assumption|exact Nat.le_of_ble_eq_true rfl|(simp only [List.length_append,List.length_cons,List.length_nil];omega)|rfl)))|(with_reducible refine NS.keep ?_)|(with_reducible refine NLd.of (by with_reducible assumption) ?_))<;>(conv=>whnf))|((first|((with_reducible refine gX ?_);(with_reducible refine z29 ?_))|((with_reducible refine gXX ?_);(with_reducible refine gM ?_)));intro A B hA hB;(conv=>whnf);(repeat (first|((first|((with_reducible refine gV ?_);(first|((with_reducible first|refine NV.quo ?s ?_|refine NV.rem ?s ?_|refine NV.i64 ?s ?_|refine NV.u32 ?s ?_|refine NV.u8 ?s ?_|refine NV.u64 ?s ?_);case s=>omega)|(with_reducible first|refine NV.divk ?_|refine NV.modk ?_|refine NV.keep ?_)))|((with_reducible refine gI ?_);(first|with_reducible refine NIf.not_ ?_|((with_reducible refine NIf.decY ?s ?_);case s=>first|with_reducible rfl|assumption|omega)|((with_reducible refine NIf.decN ?s ?_);case s=>first|with_reducible rfl|assumption|omega)|((with_reducible refine NIf.yes ?s ?_);case s=>first|rfl|assumption)|((with_reducible refine NIf.no ?s ?_);case s=>first|rfl|assumption)))|((with_reducible refine gN ?_);(with_reducible first|refine NN.lit ?_|refine NN.cast ?_|refine NN.a1 ?_|refine NN.a2 ?_|refine NN.a3 ?_|refine NN.a4 ?_|refine NN.a5 ?_|refine NN.a6 ?_|refine NN.keep ?_))|((with_reducible refine gH ?_);((with_reducible refine NH.mk ?s ?_);case s=>(and_intros<;>first|with_reducible rfl|((with_reducible refine dL ?_);rfl)|((with_reducible refine fA ?_);rfl)|omega|assumption|exact Nat.le_of_ble_eq_true rfl|(simp only [List.length_append,List.length_cons,List.length_nil];omega)|rfl)))|(with_reducible refine NS.keep ?_)|(with_reducible refine NLd.of (by with_reducible assumption) ?_))<;>(conv=>whnf))|((refine aY.2 ⟨⟨?s1,?s2⟩,?_⟩;(case s1=>decide +kernel);(case s2=>decide +kernel))<;>(conv=>whnf))));(with_reducible first|(refine hK _ _ ?_;clear hK K)|(refine hA ?_;clear hA hB A B)|(refine hB ?_;clear hA hB A B)|(refine hK _ ?_;clear hK K)))|((refine aY.2 ⟨⟨?s1,?s2⟩,?_⟩;(case s1=>decide +kernel);(case s2=>decide +kernel))<;>(conv=>whnf))))
  exact r.go):G:=h ⟨r⟩
theorem cX {P:Program} {f:FuncId} {args:List AV} {m:List Blk} {K KL:AV→List Blk→Prop} {Kp KpL:List PanicEntry→List Blk→Prop} (idx:List Nat) {args':List AV} {mL:List Blk} (h:aG P f args' mL KL KpL) (hargs:denL args'=denL args)
    (hmL:idx.map (fun i=>m[i]?)=mL.map some) (hK:∀ r bs,KL r bs→Nat.ble idx.length bs.length=true∧∃ r',r'.den=r.den∧dy m idx bs (K r')) (hP:∀ ch bs,KpL ch bs→Nat.ble idx.length bs.length=true∧dy m idx bs (Kp ch)) (hn:idx.Nodup:=by decide):aG P f args m K Kp :=
  aG.subw idx args' mL h hargs hn hmL (fun r bs hr=>⟨Nat.le_of_ble_eq_true (hK r bs hr).1,(hK r bs hr).2⟩) fun ch bs hr=>⟨Nat.le_of_ble_eq_true (hP ch bs hr).1,(hP ch bs hr).2⟩
theorem ai {G G':Prop} (r:G') (h:bH G'→G:=by
  intro r
  repeat1' (first|(with_reducible first|(refine hK _ _ ?_;try clear hP hK Kp K)|(refine hA ?_;try clear hA hB A B)|(refine hB ?_;try clear hA hB A B)|(refine hK _ ?_;try clear hK K)|(refine hP _ _ ?_;try clear hP hK Kp K))|(intro K hK;first|(with_reducible first|refine hK _ _ ?_|refine hK _ ?_)|refine qB ?_)|(intro K Kp hK hP;first|(with_reducible refine hK _ _ ?_)|refine qB ?_)|((first|((with_reducible refine gV ?_);(first|((with_reducible first|refine NV.quo ?s ?_|refine NV.rem ?s ?_|refine NV.i64 ?s ?_|refine NV.u32 ?s ?_|refine NV.u8 ?s ?_|refine NV.u64 ?s ?_);case s=>omega)|(with_reducible first|refine NV.divk ?_|refine NV.modk ?_|refine NV.keep ?_)))|((with_reducible refine gI ?_);(first|with_reducible refine NIf.not_ ?_|((with_reducible refine NIf.decY ?s ?_);case s=>first|with_reducible rfl|assumption|omega)|((with_reducible refine NIf.decN ?s ?_);case s=>first|with_reducible rfl|assumption|omega)|((with_reducible refine NIf.yes ?s ?_);case s=>first|rfl|assumption)|((with_reducible refine NIf.no ?s ?_);case s=>first|rfl|assumption)))|((with_reducible refine gN ?_);(with_reducible first|refine NN.lit ?_|refine NN.cast ?_|refine NN.a1 ?_|refine NN.a2 ?_|refine NN.a3 ?_|refine NN.a4 ?_|refine NN.a5 ?_|refine NN.a6 ?_|refine NN.keep ?_))|((with_reducible refine gH ?_);((with_reducible refine NH.mk ?s ?_);case s=>(and_intros<;>first|with_reducible rfl|((with_reducible refine dL ?_);rfl)|((with_reducible refine fA ?_);rfl)|omega|assumption|exact Nat.le_of_ble_eq_true rfl|(simp only [List.length_append,List.length_cons,List.length_nil];omega)|rfl)))|(with_reducible refine NS.keep ?_)|(with_reducible refine NLd.of (by with_reducible assumption) ?_))<;>(conv=>whnf))|((first|((with_reducible refine gO ?_);(with_reducible first|refine z25 ?_|refine z26 ?_))|((with_reducible refine gP ?_);(with_reducible first|refine z27 ?_|refine z28 ?_))|((with_reducible refine gR ?_);(first|refine z31 rfl ?_|refine z32 rfl ?_))|((with_reducible refine gF ?_);(refine z33 rfl ?_))|((with_reducible refine gRX ?_);(first|refine eA rfl ?_|refine dE rfl ?_))|((with_reducible refine gFX ?_);(refine gK rfl ?_)));intro K hK;conv=>whnf)|((first|((with_reducible refine gOX ?_);(with_reducible first|refine jH ?_|refine st_opXg ?_)));intro K Kp hK hP;conv=>whnf)|((with_reducible refine gO ?_);(with_reducible first|refine z0 ?_))|((with_reducible refine gP ?_);(with_reducible first|refine z24 ?_))|((with_reducible refine gX ?_);(with_reducible first|refine z3 ?_|refine z4 ?_|refine z5 ?_|refine z6 ?_|refine z7 ?_|refine z8 ?_|refine z14 ?_|refine z15 ?_))|(with_reducible first|refine z1 ?_|refine z2 ?_|refine z9 ?_|refine z10 ?_|refine z11 ?_|refine z12 ?_|refine z13 ?_|refine z16 ?_|refine z17 ?_|refine z18 ?_|refine z19 ?_|refine z20 ?_|refine z21 ?_|refine z22 ?_|refine z23 ?_|refine gG ?_|refine dR ?_|refine dd ?_|refine dC ?_|refine dF ?_|refine st_scope_panic ?_|refine dD ?_)|((with_reducible refine gB ?_);(refine z30 (by decide) ?_))|((with_reducible refine gOX ?_);(with_reducible first|refine jI ?_))|((with_reducible refine gXX ?_);(with_reducible first|refine jF ?_|refine eo ?_|refine fN ?_|refine gJ ?_|refine gL ?_|refine jG ?_|refine st_scopeX ?_|refine st_labelX ?_))|((with_reducible refine gRX ?_);(with_reducible refine dS ?_))|((with_reducible refine gXX ?_);(refine st_drawX ?_))|((with_reducible refine gX ?_);(refine z34 (by kernel_rfl) (by kernel_rfl) ?_))|((first|((with_reducible refine gX ?_);(with_reducible refine z29 ?_))|((with_reducible refine gXX ?_);(with_reducible refine gM ?_)));intro A B hA hB;conv=>whnf)|((refine aY.2 ⟨⟨?s1,?s2⟩,?_⟩;(case s1=>decide +kernel);(case s2=>decide +kernel))<;>(conv=>whnf)))
  (first|exact r.go|(revert K hK;exact r.go)|(revert A B hA hB;exact r.go)|(revert K Kp hK hP;exact r.go))):G:=h ⟨r⟩
theorem rE {G G':Prop} (r:G') (h:bH G'→G:=by
  intro r
  repeat1' (first|(with_reducible first|(refine hK _ _ ?_;try clear hP hK Kp K)|(refine hA ?_;try clear hA hB A B)|(refine hB ?_;try clear hA hB A B)|(refine hK _ ?_;try clear hK K)|(refine hP _ _ ?_;try clear hP hK Kp K))|(intro K hK;first|(with_reducible first|refine hK _ _ ?_|refine hK _ ?_)|refine qB ?_)|(intro K Kp hK hP;first|(with_reducible refine hK _ _ ?_)|refine qB ?_)|((first|((with_reducible refine gV ?_);(first|((with_reducible first|refine NV.quo ?s ?_|refine NV.rem ?s ?_|refine NV.i64 ?s ?_|refine NV.u32 ?s ?_|refine NV.u8 ?s ?_|refine NV.u64 ?s ?_);case s=>omega)|(with_reducible first|refine NV.divk ?_|refine NV.modk ?_|refine NV.keep ?_)))|((with_reducible refine gI ?_);(first|with_reducible refine NIf.not_ ?_|((with_reducible refine NIf.decY ?s ?_);case s=>first|with_reducible rfl|assumption|omega)|((with_reducible refine NIf.decN ?s ?_);case s=>first|with_reducible rfl|assumption|omega)|((with_reducible refine NIf.yes ?s ?_);case s=>first|rfl|assumption)|((with_reducible refine NIf.no ?s ?_);case s=>first|rfl|assumption)))|((with_reducible refine gN ?_);(with_reducible first|refine NN.lit ?_|refine NN.cast ?_|refine NN.a1 ?_|refine NN.a2 ?_|refine NN.a3 ?_|refine NN.a4 ?_|refine NN.a5 ?_|refine NN.a6 ?_|refine NN.keep ?_))|((with_reducible refine gH ?_);((with_reducible refine NH.mk ?s ?_);case s=>(and_intros<;>first|with_reducible rfl|((with_reducible refine dL ?_);rfl)|((with_reducible refine fA ?_);rfl)|omega|assumption|exact Nat.le_of_ble_eq_true rfl|(simp only [List.length_append,List.length_cons,List.length_nil];omega)|rfl)))|(with_reducible refine NS.keep ?_)|(with_reducible refine NLd.of (by with_reducible assumption) ?_))<;>(conv=>whnf))|((first|((with_reducible refine gO ?_);(with_reducible first|refine z25 ?_|refine z26 ?_))|((with_reducible refine gP ?_);(with_reducible first|refine z27 ?_|refine z28 ?_))|((with_reducible refine gR ?_);(first|refine z31 rfl ?_|refine z32 rfl ?_))|((with_reducible refine gF ?_);(refine z33 rfl ?_))|((with_reducible refine gRX ?_);(first|refine eA rfl ?_|refine dE rfl ?_))|((with_reducible refine gFX ?_);(refine gK rfl ?_)));intro K hK;conv=>whnf)|((first|((with_reducible refine gOX ?_);(with_reducible first|refine jH ?_|refine st_opXg ?_)));intro K Kp hK hP;conv=>whnf)|((with_reducible refine gO ?_);(with_reducible first|refine z0 ?_))|((with_reducible refine gP ?_);(with_reducible first|refine z24 ?_))|((with_reducible refine gX ?_);(with_reducible first|refine z3 ?_|refine z4 ?_|refine z5 ?_|refine z6 ?_|refine z7 ?_|refine z8 ?_|refine z14 ?_|refine z15 ?_))|(with_reducible first|refine z1 ?_|refine z2 ?_|refine z9 ?_|refine z10 ?_|refine z11 ?_|refine z12 ?_|refine z13 ?_|refine z16 ?_|refine z17 ?_|refine z18 ?_|refine z19 ?_|refine z20 ?_|refine z21 ?_|refine z22 ?_|refine z23 ?_|refine gG ?_|refine dR ?_|refine dd ?_|refine dC ?_|refine dF ?_|refine st_scope_panic ?_|refine dD ?_)|((with_reducible refine gB ?_);(refine z30 (by decide) ?_))|((with_reducible refine gOX ?_);(with_reducible first|refine jI ?_))|((with_reducible refine gXX ?_);(with_reducible first|refine jF ?_|refine eo ?_|refine fN ?_|refine gJ ?_|refine gL ?_|refine jG ?_|refine st_scopeX ?_|refine st_labelX ?_))|((with_reducible refine gRX ?_);(with_reducible refine dS ?_))|((with_reducible refine gXX ?_);(refine mw (by kernel_rfl) _ rfl ?_))|((with_reducible refine gX ?_);(refine z34 (by kernel_rfl) (by kernel_rfl) ?_))|((with_reducible refine rx ?_);(first|(refine oU rfl (by kernel_rfl) ?_)|(refine oT rfl (by kernel_rfl) (by intro h;cases h) ?_)))|((with_reducible refine rj ?_);(refine ju ?_ nD;intro K Kp hK hP;conv=>whnf))|((first|((with_reducible refine gX ?_);(with_reducible refine z29 ?_))|((with_reducible refine gXX ?_);(with_reducible refine gM ?_)));intro A B hA hB;conv=>whnf)|((refine aY.2 ⟨⟨?s1,?s2⟩,?_⟩;(case s1=>decide +kernel);(case s2=>decide +kernel))<;>(conv=>whnf)))
  (first|exact r.go|(revert K hK;exact r.go)|(revert A B hA hB;exact r.go)|(revert K Kp hK hP;exact r.go))):G:=h ⟨r⟩
theorem rD {G A' B':Prop} (ra:A') (rb:B') (h:bH A'→bH B'→G:=by
  intro ra rb
  (with_reducible refine rj ?_);refine ju ?_ ?_;(intro K Kp hK hP;(conv=>whnf);revert K Kp hK hP;exact ra.go);exact rb.go):G:=h ⟨ra⟩ ⟨rb⟩
section
variable {P:Program}
@[irreducible] def NY (P:Program) (c:Code) (ds:List Deferred) (sl:List AV) (m:List Blk) (R:List Deferred→Post):Prop :=
  ∀ (w0:World) (W Fo:Nat→Prop) (a:Act) (w:World),Sim w0 ⟨W,Fo,ds⟩ sl m a w→c.wp P (fun e a w=>∃ ds' sl m,R ds' e sl m∧Sim w0 ⟨W,Fo,ds'⟩ sl m a w) a w
theorem ez {x y:Code} {ds:List Deferred} {sl:List AV} {m:List Blk} {R:List Deferred→Post} (h:NY P x ds sl m fun ds' e sl m=>match e with
    | .normal=>NY P y ds' sl m R
    | e=>R ds' e sl m):NY P (.seq x y) ds sl m R:=by
  unfold NY at h ⊢
  intro w0 W Fo a w hs
  refine wp_seq (wp_mono (h w0 W Fo a w hs) fun e a w hq=>?_)
  obtain ⟨ds',sl',m',h1,h2⟩:=hq
  cases e with
  | normal =>
    exact h1 w0 W Fo a w h2
  | _=>exact ⟨ds',sl',m',h1,h2⟩
theorem ll {c:Code} {ds:List Deferred} {sl:List AV} {m:List Blk} {R:List Deferred→Post} (h:codeX P c sl m (R ds)):NY P c ds sl m R:=by
  unfold NY
  intro w0 W Fo a w hs
  refine wp_mono (eS h hs) fun e a w hq=>?_
  obtain ⟨sl',m',h1,h2⟩:=hq
  exact ⟨ds,sl',m',h1,h2⟩
theorem ou {id:Nat} {t:Tmp} {g:FuncId} {caps:Array Operand} {ty1 ty2:TypeId} {p1 p2:String} {e1 e2:Array Edge} {ats:Array TypeId} {ds:List Deferred} {sl:List AV} {m:List Blk} {R:List Deferred→Post}
    (h:evLK sl caps.toList fun xs=>dstK sl (some t) (.fn g [] xs) fun sl'=>evK sl' (.tmp t) fun f=>match f with
      | .fn g first ys=>R ({ target:=.fn (.func g) (denL ys).toArray,args:=(denL first).toArray }::ds) .normal sl' m
      | _=>False) :
    NY P (.region id #[⟨some t,.makeFunc (.func g) #[] caps,ty1,p1,e1,none⟩,⟨none,.defer { callee:=.value (.tmp t),args:=#[],argTypes:=ats },ty2,p2,e2,none⟩] false) ds sl m R:=by
  unfold NY
  intro w0 W Fo a w hs
  obtain ⟨v,h1,h2⟩:=bu (P:=P) (m:=m) (op:=.makeFunc (.func g) #[] caps) (K:=fun v=>dstK sl (some t) v fun sl'=>evK sl' (.tmp t) fun f=>match f with
      | .fn g first ys=>R ({ target:=.fn (.func g) (denL ys).toArray,args:=(denL first).toArray }::ds) .normal sl' m
      | _=>False) hs.slots h
  obtain ⟨sl',h3,h4⟩:=aI h1 hs.slots
  obtain ⟨f,h5,h6⟩:=aF h4 h3
  split at h5
  · rename_i g' first ys
    refine wp_region_list ?_
    show wpList P _ _ [_,_] a w
    unfold wpList
    rw [if_pos (by simp [Region.wanted])]
    refine .inl ?_
    unfold Oper.wp
    rw [h2 w hs.mem _ rfl,Oper.upon_value]
    unfold wpList
    rw [if_pos (by simp [Region.wanted])]
    refine .inl ?_
    unfold Oper.wp
    have:(execOp (a.put (some t) v.den).eval ⟨none,.defer { callee:=.value (.tmp t),args:=#[],argTypes:=ats },ty2,p2,e2,none⟩).run P w = .ok (.defer { target:=.fn (.func g') (denL ys).toArray,args:=(denL first).toArray }) w:=by
      simp only [execOp,resolve,Sem.run_bind,h6,AV.den,Deferred.ofValue,Sem.run_pure,Result.andThen_ok]
      simp
    rw [this,Oper.upon_defer]
    exact ⟨_,sl',m,h5,h4,by show _::(a.put (some t) v.den).defers=_;rw [cH,hs.defers],hs.mem,hs.fr,hs.fresh⟩
  · exact h5.elim
@[irreducible] def NEnd (P:Program) (fn:Func) (ds:List Deferred) (u:FrameMode) (sl:List AV) (m:List Blk) (K:AV→List Blk→Prop):Prop :=
  ∀ (w0:World) (W Fo:Nat→Prop) (a:Act) (w:World),Sim w0 ⟨W,Fo,ds⟩ sl m a w→Leaves P fn a.tmps (fun e w'=>∃ r m',K r m'∧e = .returned r.den∧MemOk m' w'∧Fr W w0 w'∧Fresh ⟨W,Fo,[]⟩ w0 m') ds u w
@[irreducible] def bK (P:Program) (g:FuncId) (args:List AV) (m:List Blk) (u:FrameMode) (K:FrameMode→List Blk→Prop):Prop :=
  (∀ (us:Array Value) (w:World),(callFunc g us).run P w = .ok (.enter g us) w) ∧
  ∀ w,MemOk m w→CallsD P g (denL args).toArray u w fun e u' w'=>∃ m',K u' m'∧e = .returned (.tuple #[])∧MemOk m' w'∧Fr (wrs m) w w'∧Fresh (own m) w m'
theorem oy {fn:Func} {sl:List AV} {m:List Blk} {K:AV→List Blk→Prop} (h:resK P m sl fn.results.toList fun xs=>retK xs fun r=>K r m):NEnd P fn [] .returning sl m K:=by
  unfold NEnd
  intro w0 W Fo a w hs
  obtain ⟨xs,h3,h4⟩:=an hs.slots h
  exact ⟨_,h4 w hs.mem,_,_,bc h3,rfl,hs.mem,hs.fr,hs.fresh⟩
theorem gk {fn:Func} {g:FuncId} {args first ys:List AV} {u:FrameMode} {sl:List AV} {m:List Blk} {K:AV→List Blk→Prop} (hu:u≠.run) (ha:args=first++ys)
    (h:bK P g args m u fun u' m'=>settle u' = .returning∧resK P m' sl fn.results.toList fun xs=>retK xs fun r=>K r m') :
    NEnd P fn [{ target:=.fn (.func g) (denL ys).toArray,args:=(denL first).toArray }] u sl m K:=by
  unfold NEnd
  unfold bK at h
  intro w0 W Fo a w hs
  subst ha
  refine leaves_cons (f:=g) (args:=(denL (first++ys)).toArray) hu ?_ ((h.2 w hs.mem).mono fun e u' w' hq=>?_)
  · simp only [invoke,h.1]
    simp [aQ]
  · obtain ⟨m',⟨h1,h2⟩,rfl,h3,h4,h5⟩:=hq
    show Leaves P fn a.tmps _ [] (settle u') w'
    rw [h1]
    obtain ⟨xs,h6,h7⟩:=an hs.slots h2
    have hfr:Fr W w0 w':=hs.fr.then h4 hs.fresh.1
    refine ⟨_,h7 w' h3,_,_,bc h6,rfl,h3,hfr,⟨fun b hb=>?_,fun b hb=>?_⟩⟩
    · rcases h5.1 b hb with h | h
      · exact hs.fresh.1 b h
      · exact .inr (Nat.le_trans hs.fr.size h)
    · rcases h5.2 b hb with h | h
      · exact hs.fresh.2 b h
      · exact .inr (Nat.le_trans hs.fr.size h)
theorem kR {f : FuncId} {fn : Func} {c : Code} (hf : P.funcs[f]? = some fn) (hc : fn.body = some c) (hn : (fn.name == "runtime.NumGoroutine") = false) {args : List AV} {m : List Blk} {K : AV → List Blk → Prop}
    (h:argK args fn.ntmps fun sl=>NY P c [] sl m fun ds e sl m'=>match e with
      | .normal=>NEnd P fn ds .returning sl m' K
      | .ret=>NEnd P fn ds .returning sl m' K
      | .panic ch=>NEnd P fn ds (.panicking ch) sl m' K
      | _=>False):NCall P f args m K:=by
  rw [aM]
  refine ⟨enters_of hf (by rw [hc];rfl) hn,fun w hm=>?_⟩
  obtain ⟨hlen,h⟩:=db h
  have hsim:Sim w (own m) (args++List.replicate (fn.ntmps - args.length) .any) m { tmps:=(denL args).toArray++Array.replicate (fn.ntmps - (denL args).toArray.size) undef,defers:=[] } w :=
    ⟨ee hlen,rfl,hm,Fr.refl _ w,fun b hb=>.inl hb,fun b hb=>.inl hb⟩
  unfold NY at h
  refine calls_of_wp_defers hf hc (wp_mono (h w (wrs m) (foots m) _ w hsim) fun e a w' hq=>?_)
  obtain ⟨ds,sl',m',h1,h2⟩:=hq
  cases e with
  | normal =>
    dsimp only at h1
    unfold NEnd at h1
    have:=h1 w (wrs m) (foots m) a w' h2
    show Leaves P fn a.tmps _ a.defers .returning w'
    rw [h2.defers]
    exact this
  | ret =>
    dsimp only at h1
    unfold NEnd at h1
    have:=h1 w (wrs m) (foots m) a w' h2
    show Leaves P fn a.tmps _ a.defers .returning w'
    rw [h2.defers]
    exact this
  | panic ch =>
    dsimp only at h1
    unfold NEnd at h1
    have:=h1 w (wrs m) (foots m) a w' h2
    show Leaves P fn a.tmps _ a.defers (.panicking ch) w'
    rw [h2.defers]
    exact this
  | exit _=>exact h1.elim
  | goto _=>exact h1.elim
  | outgrown=>exact h1.elim
end
section
variable {P:Program}
theorem nV {g:FuncId} {fn:Func} {id:Nat} {t7 t3:Tmp} {rest:Code} {ty1 ty2:TypeId} {p1 p2:String} {e1 e2:Array Edge} (hf:P.funcs[g]?=some fn)
    (hc:fn.body=some (.seq (.region id #[⟨some t7,.call { callee:=.builtin .recover,args:=#[],argTypes:=#[] },ty1,p1,e1,none⟩,⟨some t3,.assign (.tmp t7),ty2,p2,e2,none⟩] false) rest))
    (hn : (fn.name == "runtime.NumGoroutine") = false) (hres : fn.results.toList = []) {args : List AV} {m : List Blk} {u u' : FrameMode} {rv : AV} {K : FrameMode → List Blk → Prop}
    (hrec:∀ (c₀:Frame) (cs:List Frame),c₀.mode=u→(recoverD (c₀::cs)=some (rv.den,{ c₀ with mode:=u' }::cs))∨(recoverD (c₀::cs)=none∧rv.den = .nilIface∧u'=u))
    (h:argK args fn.ntmps fun sl=>dstK sl (some t7) rv fun sl1=>evK sl1 (.tmp t7) fun x=>dstK sl1 (some t3) x fun sl2=>codeX P rest sl2 m fun e _ m'=>(e = .normal∨e = .ret)∧K u' m'):bK P g args m u K:=by
  unfold bK
  refine ⟨enters_of hf (by rw [hc];rfl) hn,fun w hm=>?_⟩
  obtain ⟨hlen,h⟩:=db h
  refine callsD_of_wpS hf hc fun c₀ cs hu=>?_
  have hs0:SlotsOk (args++List.replicate (fn.ntmps - args.length) .any) ({ tmps:=(denL args).toArray++Array.replicate (fn.ntmps - (denL args).toArray.size) undef,defers:=[] }:Act).tmps:=ee hlen
  obtain ⟨sl1,h1,h2⟩:=aI h hs0
  obtain ⟨x,h3,h4⟩:=aF h2 h1
  obtain ⟨sl2,h5,h6⟩:=aI h3 h2
  generalize hA:({ tmps:=(denL args).toArray++Array.replicate (fn.ntmps - (denL args).toArray.size) undef,defers:=[] }:Act)=A at *
  have hAd:A.defers=[]:=by rw [← hA]
  have hrest:∀ cs',cs'={ c₀ with mode:=u' }::cs→rest.wpS P (bodyPostS P fn c₀ cs fun e u' w'=>∃ m',K u' m'∧e = .returned (.tuple #[])∧MemOk m' w'∧Fr (wrs m) w w'∧Fresh (own m) w m') ((A.put (some t7) rv.den).put (some t3) x.den) cs' w:=fun cs' hcs=>by
    subst hcs
    have hsim:Sim w (own m) sl2 m ((A.put (some t7) rv.den).put (some t3) x.den) w:=⟨h6,by rw [cH,cH,hAd];rfl,hm,Fr.refl _ w,fun b hb=>.inl hb,fun b hb=>.inl hb⟩
    refine wpS_of_wp (wp_mono (eS h5 hsim) fun e a w' hq=>?_)
    obtain ⟨sl',m',g1,g2⟩:=hq
    obtain ⟨he,g3⟩:=g1
    have hk:resK P m' sl' fn.results.toList fun xs=>xs=[]:=by
      rw [hres]
      exact rfl
    obtain ⟨xs,rfl,g4⟩:=an g2.slots hk
    rcases he with rfl | rfl
    iterate 2
      · exact ⟨g2.defers,u',rfl,_,g4 w' g2.mem,m',g3,rfl,g2.mem,g2.fr,g2.fresh⟩
  apply wpS_seq
  apply wpS_region
  show wpOpsS P _ _ [0,1] A (c₀::cs) w
  have er:(execOp A.eval ⟨some t7,.call { callee:=.builtin .recover,args:=#[],argTypes:=#[] },ty1,p1,e1,none⟩).run P w = .ok .recover w:=by
    simp [execOp,resolve,invoke,builtin]
  have ea:∀ v,(execOp (A.put (some t7) v).eval ⟨some t3,.assign (.tmp t7),ty2,p2,e2,none⟩).run P w = .ok (.value ((A.put (some t7) v).eval (.tmp t7))) w:=fun v=>rfl
  have w1:Region.wanted (⟨some t7,.call { callee:=.builtin .recover,args:=#[],argTypes:=#[] },ty1,p1,e1,none⟩:Oper)=fun _=>true:=by
    funext y
    simp [Region.wanted]
  have w2:Region.wanted (⟨some t3,.assign (.tmp t7),ty2,p2,e2,none⟩:Oper)=fun _=>true:=by
    funext y
    simp [Region.wanted]
  unfold wpOpsS
  simp only [List.getElem?_toArray,List.getElem?_cons_zero,w1,if_true,er]
  rcases hrec c₀ cs hu with hr | ⟨hr,hv,rfl⟩
  · rw [hr]
    dsimp only
    unfold wpOpsS
    simp only [List.getElem?_toArray,List.getElem?_cons_succ,List.getElem?_cons_zero,w2,if_true,ea,h4]
    rw [Oper.upon_value]
    exact hrest _ rfl
  · rw [hr]
    dsimp only
    unfold wpOpsS
    rw [← hv]
    simp only [List.getElem?_toArray,List.getElem?_cons_succ,List.getElem?_cons_zero,w2,if_true,ea,h4]
    rw [Oper.upon_value]
    refine hrest _ ?_
    rw [← hu]
theorem ii {g:FuncId} {fn:Func} {id:Nat} {t7 t3:Tmp} {rest:Code} {ty1 ty2:TypeId} {p1 p2:String} {e1 e2:Array Edge} (hf:P.funcs[g]?=some fn)
    (hc:fn.body=some (.seq (.region id #[⟨some t7,.call { callee:=.builtin .recover,args:=#[],argTypes:=#[] },ty1,p1,e1,none⟩,⟨some t3,.assign (.tmp t7),ty2,p2,e2,none⟩] false) rest))
    (hn : (fn.name == "runtime.NumGoroutine") = false) (hres : fn.results.toList = []) {args : List AV} {m : List Blk} {u u' : FrameMode} {rv : AV} {K : FrameMode → List Blk → Prop}
    (hrec:∀ (c₀:Frame) (cs:List Frame),c₀.mode=u→(recoverD (c₀::cs)=some (rv.den,{ c₀ with mode:=u' }::cs))∨(recoverD (c₀::cs)=none∧rv.den = .nilIface∧u'=u))
    (h:∀ Q:List AV→Prop,(∀ sl,codeX P rest sl m (fun e _ m'=>(e = .normal∨e = .ret)∧K u' m')→Q sl)→argK args fn.ntmps fun sl=>dstK sl (some t7) rv fun sl1=>evK sl1 (.tmp t7) fun x=>dstK sl1 (some t3) x Q):bK P g args m u K:=by
  exact nV hf hc hn hres hrec (h _ fun _ h=>h)
theorem bK.subw {g:FuncId} {args:List AV} {m:List Blk} {u:FrameMode} {K KL:FrameMode→List Blk→Prop} (idx:List Nat) (args':List AV) (mL:List Blk) (h:bK P g args' mL u KL) (hargs:denL args'=denL args)
    (hn:idx.Nodup) (hmL:idx.map (fun i=>m[i]?)=mL.map some)
    (hK:∀ u' bs,KL u' bs→idx.length≤bs.length∧dy m idx bs (K u')):bK P g args m u K:=by
  obtain ⟨h1,h2⟩:=iR (mL:=mL) idx hn hmL
  unfold bK at h ⊢
  refine ⟨h.1,fun w hm=>?_⟩
  have h3:=(h.2 w (h1 w hm).1).mono (R':=fun e u' w'=>∃ m',K u' m'∧e = .returned (.tuple #[])∧MemOk m' w'∧Fr (wrs m) w w'∧Fresh (own m) w m') fun e u' w' hq=>by
    obtain ⟨bs,g1,rfl,g3,g4,g5⟩:=hq
    obtain ⟨g6,g7⟩:=hK u' bs g1
    obtain ⟨g8,g9⟩:=h2 bs g6 w w' hm g3 g4 g5
    exact ⟨_,cu _ _ _ g7,rfl,g8,⟨g4.os,g4.tape,g4.output,g4.size,fun k hk hs=>g4.block k hk (fun ht=>hs ((h1 w hm).2 k ht))⟩,g9⟩
  rw [hargs] at h3
  exact h3
theorem eG {f : FuncId} {fn : Func} {c : Code} (hf : P.funcs[f]? = some fn) (hc : fn.body = some c) (hn : (fn.name == "runtime.NumGoroutine") = false) {args : List AV} {m : List Blk} {K : AV → List Blk → Prop}
    (h:∀ Q:List AV→Prop,(∀ sl,NY P c [] sl m (fun ds e sl m'=>match e with
      | .normal=>NEnd P fn ds .returning sl m' K
      | .ret=>NEnd P fn ds .returning sl m' K
      | .panic ch=>NEnd P fn ds (.panicking ch) sl m' K
      | _=>False)→Q sl)→argK args fn.ntmps Q):NCall P f args m K:=kR hf hc hn (h _ fun _ h=>h)
end
end Go.Sx
namespace Go.Proofs.YtmehinfgdcmmjaaGreat
open Go.Sx
set_option linter.unusedVariables false
namespace Lx
def isSp (c:UInt8):Bool:=c == 32||c == 9||c == 10
def isL (c:UInt8):Bool:=decide (97≤c.toNat)&&decide (c.toNat≤122)
def isD (c:UInt8):Bool:=decide (48≤c.toNat)&&decide (c.toNat≤57)
def isS (c:UInt8):Bool:=c == 40||c == 41||c == 59||c == 124||c == 61
def notNl (c:UInt8):Bool:=!(c == 10)
theorem tw_all {p:UInt8→Bool}:∀ {l:List UInt8} {x:UInt8},x∈l.takeWhile p→p x=true
  | [],_,h=>by simp at h
  | c::l,x,h=>by
    by_cases hc:p c=true
    · rw [List.takeWhile_cons_of_pos hc] at h
      rcases List.mem_cons.1 h with e | h
      · rw [e];exact hc
      · exact tw_all h
    · rw [List.takeWhile_cons_of_neg hc] at h;cases h
theorem tw_ext {p:UInt8→Bool}:∀ {a r:List UInt8},(∀ x∈a,p x=true)→(∀ c t,r=c::t→p c=false)→(a++r).takeWhile p=a∧(a++r).dropWhile p=r
  | [],[],_,_=>⟨rfl,rfl⟩
  | [],c::r,_,h=>by
    have:=h c r rfl
    constructor
    · rw [List.nil_append,List.takeWhile_cons_of_neg (by rw [this];decide)]
    · rw [List.nil_append,List.dropWhile_cons_of_neg (by rw [this];decide)]
  | x::a,r,h,h2=>by
    have hx:=h x (by simp)
    have ih:=tw_ext (a:=a) (r:=r) (fun y hy=>h y (List.mem_cons_of_mem _ hy)) h2
    constructor
    · rw [List.cons_append,List.takeWhile_cons_of_pos hx,ih.1]
    · rw [List.cons_append,List.dropWhile_cons_of_pos hx,ih.2]
theorem dw_head {p:UInt8→Bool}:∀ {l:List UInt8} {c:UInt8} {t:List UInt8},l.dropWhile p=c::t→p c=false
  | [],_,_,h=>by simp at h
  | x::l,c,t,h=>by
    by_cases hx:p x=true
    · rw [List.dropWhile_cons_of_pos hx] at h;exact dw_head h
    · rw [List.dropWhile_cons_of_neg hx] at h
      injection h with h1 _
      rw [← h1];simpa using hx
theorem dw_len {p:UInt8→Bool} (l:List UInt8):(l.dropWhile p).length≤l.length:=by
  have:=congrArg List.length (List.takeWhile_append_dropWhile (p:=p) (l:=l))
  simp only [List.length_append] at this
  omega
def skip (t:List UInt8):List UInt8 :=
  match h:t.dropWhile isSp with
  | []=>[]
  | c::r=>if c=35 then skip (r.dropWhile notNl) else c::r
termination_by t.length
decreasing_by
  have h1:=dw_len (p:=isSp) t
  have h2:=dw_len (p:=notNl) r
  rw [h] at h1
  simp only [List.length_cons] at h1
  omega
theorem skip_nil {t:List UInt8} (h:t.dropWhile isSp=[]):skip t=[]:=by
  rw [skip]
  split
  · rfl
  · rename_i e;rw [h] at e;cases e
theorem skip_cons {t r:List UInt8} {c:UInt8} (h:t.dropWhile isSp=c::r):skip t=if c=35 then skip (r.dropWhile notNl) else c::r:=by
  rw [skip]
  split
  · rename_i e;rw [h] at e;cases e
  · rename_i c' r' e
    rw [h] at e
    injection e with e1 e2
    rw [e1,e2]
theorem skip_len:∀ (n:Nat) (t:List UInt8),t.length≤n→(skip t).length≤t.length
  | 0,t,h=>by
    have:t=[]:=List.eq_nil_of_length_eq_zero (by omega)
    subst this
    rw [skip_nil rfl];exact Nat.le_refl _
  | n+1,t,h=>by
    have h1:=dw_len (p:=isSp) t
    cases hd:t.dropWhile isSp with
    | nil=>rw [skip_nil hd];simp
    | cons c r =>
      rw [hd] at h1
      simp only [List.length_cons] at h1
      rw [skip_cons hd]
      split
      · have h2:=dw_len (p:=notNl) r
        have:=skip_len n (r.dropWhile notNl) (by omega)
        omega
      · simp only [List.length_cons];omega
theorem skip_split:∀ (n:Nat) (t:List UInt8),t.length≤n→skip t≠[]→∃ b,t=b++skip t∧∀ y,(∀ c r,y=c::r→isSp c=false∨True)→skip (b++y)=skip y
  | 0,t,h,hne=>by
    have:t=[]:=List.eq_nil_of_length_eq_zero (by omega)
    subst this
    rw [skip_nil rfl] at hne
    exact (hne rfl).elim
  | n+1,t,h,hne=>by
    have ht:=List.takeWhile_append_dropWhile (p:=isSp) (l:=t)
    have hall:∀ x∈t.takeWhile isSp,isSp x=true:=fun x hx=>tw_all hx
    have h1:=dw_len (p:=isSp) t
    have key:∀ (a y:List UInt8),(∀ x∈a,isSp x=true)→skip (a++y)=skip y:=by
      intro a y ha
      have e:(a++y).dropWhile isSp=y.dropWhile isSp:=by
        induction a with
        | nil=>rfl
        | cons x a ih=>rw [List.cons_append,List.dropWhile_cons_of_pos (ha x (by simp))];exact ih fun z hz=>ha z (List.mem_cons_of_mem _ hz)
      cases hy:y.dropWhile isSp with
      | nil=>rw [skip_nil (e.trans hy),skip_nil hy]
      | cons c r=>rw [skip_cons (e.trans hy),skip_cons hy]
    cases hd:t.dropWhile isSp with
    | nil=>rw [skip_nil hd] at hne;exact (hne rfl).elim
    | cons c r =>
      rw [hd] at h1
      simp only [List.length_cons] at h1
      have hs:=skip_cons hd
      by_cases hc:c=35
      · rw [if_pos hc] at hs
        have h2:=dw_len (p:=notNl) r
        have hr:=List.takeWhile_append_dropWhile (p:=notNl) (l:=r)
        rw [hs] at hne
        cases hd2:r.dropWhile notNl with
        | nil =>
          rw [hd2,skip_nil rfl] at hne
          exact (hne rfl).elim
        | cons d r2 =>
          have hnl:d=10:=by
            have:=dw_head hd2
            unfold notNl at this
            simpa using this
          have h3:(r.dropWhile notNl).length≤n:=by omega
          obtain ⟨b,hb,hy⟩:=skip_split n (r.dropWhile notNl) h3 hne
          refine ⟨t.takeWhile isSp++(c::(r.takeWhile notNl++b)),?_,fun y hyy=>?_⟩
          · rw [hs,List.append_assoc,List.cons_append,List.append_assoc,← hb,hr,← hd,ht]
          · rw [List.append_assoc,key _ _ hall]
            have hbne:b≠[]∨skip (r.dropWhile notNl)=r.dropWhile notNl:=by
              by_cases e:b=[]
              · right;rw [e] at hb;exact hb.symm
              · exact .inl e
            have hsp:isSp d=true:=by rw [hnl];decide
            have hbn:b≠[]:=by
              rcases hbne with h | h
              · exact h
              · intro e
                have e2:skip (d::r2)=d::r2:=by rw [← hd2];exact h
                have e3:=key [d] r2 (fun x hx=>by rw [List.mem_singleton.1 hx];exact hsp)
                have e4:=skip_len r2.length r2 (Nat.le_refl _)
                have e5:(skip (d::r2)).length≤r2.length:=by
                  have:skip (d::r2)=skip r2:=e3
                  rw [this];exact e4
                rw [e2] at e5
                simp only [List.length_cons] at e5
                omega
            obtain ⟨b0,b1,rfl⟩:∃ b0 b1,b=b0::b1:=by
              cases b with
              | nil=>exact (hbn rfl).elim
              | cons b0 b1=>exact ⟨_,_,rfl⟩
            have hb0:b0=d:=by
              rw [hd2] at hb
              injection hb with e _
              exact e.symm
            have ew:(r.takeWhile notNl++(b0::b1)++y).dropWhile notNl=b0::b1++y:=by
              rw [List.append_assoc]
              refine (tw_ext (fun x hx=>tw_all hx) fun c' t' e=>?_).2
              rw [List.cons_append] at e
              injection e with e _
              rw [← e,hb0,hnl];decide
            have ed:(c::(r.takeWhile notNl++(b0::b1))++y).dropWhile isSp=c::(r.takeWhile notNl++(b0::b1)++y):=by
              rw [List.cons_append,List.dropWhile_cons_of_neg]
              rw [hc];decide
            rw [skip_cons ed,if_pos hc,ew]
            exact hy y hyy
      · rw [if_neg hc] at hs
        refine ⟨t.takeWhile isSp,?_,fun y _=>key _ _ hall⟩
        rw [hs,← hd,ht]
structure B where
  k:Int
  n:Int
  s:List UInt8
def num (d:List UInt8):Nat:=d.foldl (fun n c=>10*n+(c.toNat - 48)) 0
def nextB:List UInt8→Option (B × Nat)
  | []=>none
  | c::r =>
    if isL c=true then some (⟨1,0,(c::r).takeWhile isL⟩,((c::r).takeWhile isL).length)
    else if isD c=true then
      (if 3<((c::r).takeWhile isD).length∨(1<((c::r).takeWhile isD).length∧c=48) then none
       else some (⟨2,num ((c::r).takeWhile isD),[]⟩,((c::r).takeWhile isD).length))
    else if c=58∧r.head?=some 61 then some (⟨3,0,[58,61]⟩,2)
    else if isS c=true then some (⟨3,0,[c]⟩,1)
    else none
theorem nextB_eq (c:UInt8) (r:List UInt8):nextB (c::r) =
    if isL c=true then some (⟨1,0,(c::r).takeWhile isL⟩,((c::r).takeWhile isL).length)
    else if isD c=true then
      (if 3<((c::r).takeWhile isD).length∨(1<((c::r).takeWhile isD).length∧c=48) then none
       else some (⟨2,num ((c::r).takeWhile isD),[]⟩,((c::r).takeWhile isD).length))
    else if c=58∧r.head?=some 61 then some (⟨3,0,[58,61]⟩,2)
    else if isS c=true then some (⟨3,0,[c]⟩,1)
    else none:=rfl
theorem tw_take (p:UInt8→Bool) (l:List UInt8):l.take (l.takeWhile p).length=l.takeWhile p∧l.drop (l.takeWhile p).length=l.dropWhile p:=by
  have ht:=List.takeWhile_append_dropWhile (p:=p) (l:=l)
  have h1:=List.take_left (l₁:=l.takeWhile p) (l₂:=l.dropWhile p)
  have h2:=List.drop_left (l₁:=l.takeWhile p) (l₂:=l.dropWhile p)
  rw [ht] at h1 h2
  exact ⟨h1,h2⟩
theorem nextB_pos {t:List UInt8} {b:B} {n:Nat} (h:nextB t=some (b,n)):1≤n∧n≤t.length:=by
  cases t with
  | nil=>cases h
  | cons c r =>
    rw [nextB_eq] at h
    have hl:∀ p:UInt8→Bool,((c::r).takeWhile p).length≤(c::r).length:=fun p=>by
      have:=congrArg List.length (List.takeWhile_append_dropWhile (p:=p) (l:=c::r))
      simp only [List.length_append] at this
      omega
    split at h
    · rename_i hc
      injection h with h;injection h with _ h
      have:=hl isL
      rw [← h]
      refine ⟨?_,this⟩
      rw [List.takeWhile_cons_of_pos hc];simp
    split at h
    · rename_i hc
      split at h
      · cases h
      injection h with h;injection h with _ h
      have:=hl isD
      rw [← h]
      refine ⟨?_,this⟩
      rw [List.takeWhile_cons_of_pos hc];simp
    split at h
    · rename_i hc
      injection h with h;injection h with _ h
      rw [← h]
      cases r with
      | nil=>simp at hc
      | cons d r=>simp
    split at h
    · injection h with h;injection h with _ h
      rw [← h];simp
    · cases h
def toks (t:List UInt8):Option (List (B × List UInt8)) :=
  match h:skip t with
  | []=>some []
  | c::r =>
    match h2:nextB (c::r) with
    | none=>none
    | some (b,n)=>(toks ((c::r).drop n)).map ((b,c::r)::·)
termination_by t.length
decreasing_by
  have h1:=skip_len t.length t (Nat.le_refl _)
  rw [h] at h1
  have h3:=nextB_pos h2
  rw [List.length_drop]
  simp only [List.length_cons] at *
  omega
theorem toks_nil {t:List UInt8} (h:skip t=[]):toks t=some []:=by
  rw [toks]
  split
  · rfl
  · rename_i e;rw [h] at e;cases e
theorem toks_none {t:List UInt8} (h:skip t≠[]) (h2:nextB (skip t)=none):toks t=none:=by
  rw [toks]
  split
  · rename_i e;exact (h e).elim
  · rename_i c r e
    split
    · rfl
    · rename_i b n e2
      rw [e] at h2
      rw [h2] at e2;cases e2
theorem toks_cons {t:List UInt8} {b:B} {n:Nat} (h:skip t≠[]) (h2:nextB (skip t)=some (b,n)):toks t=(toks ((skip t).drop n)).map ((b,skip t)::·):=by
  rw [toks]
  split
  · rename_i e;exact (h e).elim
  · rename_i c r e
    split
    · rename_i e2
      rw [e] at h2
      rw [h2] at e2;cases e2
    · rename_i b' n' e2
      rw [e] at h2 ⊢
      rw [h2] at e2
      injection e2 with e2
      injection e2 with e3 e4
      subst e3 e4
      rfl
theorem skip_id {c:UInt8} {r:List UInt8} (h:isSp c=false) (h2:c≠35):skip (c::r)=c::r:=by
  have e:(c::r).dropWhile isSp=c::r:=List.dropWhile_cons_of_neg (by rw [h];decide)
  rw [skip_cons e,if_neg h2]
end Lx
end Go.Proofs.YtmehinfgdcmmjaaGreat
