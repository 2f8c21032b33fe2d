import Derived.Test.YtijkmhmgigaieaaTc3
import Derived.Test.YtijkmhmgigaieaaSxMp
namespace Go.Sx
section
variable {P:Program}
theorem NMap.fits {s:Sem Value} {m m':List Blk} {K:AV→List Blk→Prop} (hm:MemFits m m') (h:NMap P s m' K):NMap P s m K:=by
  rw [NMap_iff] at h ⊢
  intro w hw
  obtain ⟨h1,h2,h3⟩:=hm w hw
  obtain ⟨r,m2,w',h4,h5,h6,h7,h8⟩:=h w h1
  exact ⟨r,m2,w',h4,h5,h6,⟨h7.os,h7.tape,h7.output,h7.size,fun k hk hs=>h7.block k hk fun ht=>hs (h2 k ht)⟩,fun b hb=>(h8.1 b hb).imp (h2 b) id,fun b hb=>(h8.2 b hb).imp (h3 b) id⟩
end
end Go.Sx
namespace Go.Proofs.Ytijkmhmgigaieaa
open Go.Sx
set_option maxRecDepth 20000
set_option maxHeartbeats 4000000
set_option linter.unusedVariables false
namespace Tc
structure O where
  u:Int
  v:Value
  l:List Nat
def openL (os:List O):List (Value × Value):=os.map fun o=>(.int .i64 o.u,o.v)
def oB (t:TypeId) (o:O):Blk:=⟨addrOf o.v,nv o.l,.row o.v t 1 o.l.length⟩
def opB (t:TypeId) (os:List O):List Blk:=os.map (oB t)
theorem opB_wr (t:TypeId) (os:List O):∀ k∈opB t os,k.wr=true:=fun k hk=>by
  obtain ⟨p,_,rfl⟩:=List.mem_map.1 hk
  rfl
theorem opB_mid (t:TypeId) (A B:List O) (o:O):(opB t (A++o::B)).Perm (oB t o::opB t (A++B)):=by
  unfold opB
  rw [List.map_append,List.map_append,List.map_cons]
  exact List.perm_middle
theorem opB_next (t:TypeId) (A:List O) (o:O):(opB t (A++[o])).Perm (oB t o::opB t A):=by
  have:=opB_mid t A [] o
  rwa [List.append_nil] at this
structure OpOk (os:List O) (out:List C):Prop where
  nodup:(os.map (·.u)).Nodup
  same:∀ o∈os,o.l=stk out o.u
  none:∀ u,(∀ o∈os,o.u≠u)→stk out u=[]
theorem OpOk.nil:OpOk [] []:=⟨List.nodup_nil,fun o h=>(by cases h),fun u _=>rfl⟩
theorem find_u:∀ (os:List O) (u:Int),(∀ o∈os,o.u≠u)∨∃ A o B,os=A++o::B∧o.u=u∧∀ a∈A,a.u≠u
  | [],u=>.inl fun o h=>by cases h
  | o::os,u=>by
    by_cases h:o.u=u
    · exact .inr ⟨[],o,os,rfl,h,fun a h=>by cases h⟩
    · rcases find_u os u with h2 | ⟨A,x,B,rfl,h3,h4⟩
      · exact .inl fun a ha=>by
          rcases List.mem_cons.1 ha with rfl | ha
          · exact h
          · exact h2 a ha
      · exact .inr ⟨o::A,x,B,rfl,h3,fun a ha=>by
          rcases List.mem_cons.1 ha with rfl | ha
          · exact h
          · exact h4 a ha⟩
theorem OpOk.others {A B:List O} {o:O} {out:List C} (h:OpOk (A++o::B) out):(∀ a∈A,a.u≠o.u)∧∀ a∈B,a.u≠o.u:=by
  have h1:=h.nodup
  rw [List.map_append,List.map_cons,List.nodup_append] at h1
  obtain ⟨_,h2,h3⟩:=h1
  rw [List.nodup_cons] at h2
  exact ⟨fun a ha e=>h3 a.u (List.mem_map.2 ⟨a,ha,rfl⟩) o.u (List.mem_cons_self ..) e,fun a ha e=>h2.1 (List.mem_map.2 ⟨a,ha,e⟩)⟩
theorem OpOk.put {A B:List O} {o:O} {out out':List C} (h:OpOk (A++o::B) out) (v:Value) (l:List Nat) (hl:l=stk out' o.u) (ho:∀ u,u≠o.u→stk out' u=stk out u):OpOk (A++⟨o.u,v,l⟩::B) out':=by
  obtain ⟨h1,h2⟩:=h.others
  refine ⟨by have:=h.nodup;simpa using this,fun a ha=>?_,fun u hu=>?_⟩
  · rcases List.mem_append.1 ha with ha | ha
    · rw [ho _ (h1 a ha)]
      exact h.same a (List.mem_append_left _ ha)
    · rcases List.mem_cons.1 ha with rfl | ha
      · exact hl
      · rw [ho _ (h2 a ha)]
        exact h.same a (List.mem_append_right _ (List.mem_cons_of_mem _ ha))
  · have hu0:u≠o.u:=fun e=>hu ⟨o.u,v,l⟩ (List.mem_append_right _ (List.mem_cons_self ..)) e.symm
    rw [ho u hu0]
    refine h.none u fun a ha=>?_
    rcases List.mem_append.1 ha with ha | ha
    · exact hu a (List.mem_append_left _ ha)
    · rcases List.mem_cons.1 ha with rfl | ha
      · exact hu0.symm
      · exact hu a (List.mem_append_right _ (List.mem_cons_of_mem _ ha))
theorem OpOk.push {A B:List O} {o:O} {out:List C} (h:OpOk (A++o::B) out) {e:E} (he:o.u=e.u) (v:Value):OpOk (A++⟨o.u,v,o.l++[out.length]⟩::B) (out++[new e]) :=
  h.put v _ (by rw [stk_new,if_pos he.symm,h.same o (by simp)]) fun u hu=>by rw [stk_new,if_neg (fun h=>hu (by rw [he,h])),List.append_nil]
theorem OpOk.more {os:List O} {out:List C} (h:OpOk os out) {e:E} (he:∀ o∈os,o.u≠e.u) (v:Value):OpOk (os++[⟨e.u,v,[out.length]⟩]) (out++[new e]):=by
  refine ⟨?_,fun a ha=>?_,fun u hu=>?_⟩
  · rw [List.map_append,List.nodup_append]
    refine ⟨h.nodup,by simp,fun a ha b hb e1=>?_⟩
    obtain ⟨o,ho,rfl⟩:=List.mem_map.1 ha
    simp only [List.map_cons,List.map_nil,List.mem_singleton] at hb
    exact he o ho (e1.trans hb)
  · rcases List.mem_append.1 ha with ha | ha
    · rw [stk_new,if_neg (fun h=>he a ha h.symm),List.append_nil]
      exact h.same a ha
    · rw [List.mem_singleton] at ha
      subst ha
      dsimp only
      rw [stk_new,if_pos rfl,h.none e.u he,List.nil_append]
  · rw [stk_new,if_neg,List.append_nil]
    · exact h.none u fun o ho=>hu o (List.mem_append_left _ ho)
    · exact fun h=>hu ⟨e.u,v,[out.length]⟩ (by simp) h
theorem isOpen_upd2 {e:E} {c:C} (h:e.kind=2) (u:Int):isOpen u (upd e c)=isOpen u c:=by
  have h6:(upd e c).end_=c.end_:=if_pos h
  have h7:(upd e c).id=c.id:=rfl
  unfold isOpen
  rw [h6,h7]
theorem OpOk.keep {os:List O} {out:List C} (h:OpOk os out) {e:E} {k:Nat} {c:C} (hc:out[k]?=some c) (hk:e.kind=2):OpOk os (out.set k (upd e c)):=by
  have hs:∀ u,stk (out.set k (upd e c)) u=stk out u:=fun u=>stk_keep hc (isOpen_upd2 hk u)
  exact ⟨h.nodup,fun o ho=>by rw [hs];exact h.same o ho,fun u hu=>by rw [hs];exact h.none u hu⟩
theorem OpOk.pop {A B:List O} {o:O} {out:List C} (h:OpOk (A++o::B) out) {e:E} (he:o.u=e.u) {l:List Nat} {k:Nat} (hl:o.l=l++[k]) {c:C} (hc:out[k]?=some c) (h2:2<e.kind) (v:Value):OpOk (A++⟨o.u,v,l⟩::B) (out.set k (upd e c)):=by
  have hs:=h.same o (by simp)
  rw [hl] at hs
  obtain ⟨c',h3,h4,h5⟩:=stk_at hs.symm
  rw [hc] at h3
  injection h3 with h3
  subst h3
  refine h.put v l (stk_end hc hs.symm ?_).symm fun u hu=>stk_keep hc ?_
  · have h6:(upd e c).end_=e.kind:=if_neg (by omega)
    unfold isOpen
    rw [h6,decide_eq_false (show ¬e.kind=0 by omega),Bool.and_false]
  · have h6:(upd e c).id=c.id:=rfl
    unfold isOpen
    rw [h6,decide_eq_false (show ¬c.id=u from fun h=>hu (h ▸ h4)),Bool.false_and,Bool.false_and]
theorem stk_len (out:List C) (u:Int):(stk out u).length≤out.length:=by
  unfold stk
  exact Nat.le_trans (List.length_filter_le _ _) (by rw [List.length_range];exact Nat.le_refl _)
def okI (v:Value):Prop:=∃ n:Int,v = .int .i64 n
theorem openL_ok {os:List O}:∀ q∈openL os,okI q.1:=fun q hq=>by
  obtain ⟨x,_,rfl⟩:=List.mem_map.1 hq
  exact ⟨x.u,rfl⟩
theorem openL_no {os:List O} {u:Int} (h:∀ o∈os,o.u≠u):∀ q∈openL os,q.1≠Value.int .i64 u:=fun q hq e=>by
  obtain ⟨x,hx,rfl⟩:=List.mem_map.1 hq
  injection e with _ e
  exact h x hx e
theorem openL_at {A B:List O} {o:O} (h:∀ a∈A,a.u≠o.u):FirstIs (openL (A++o::B)) (.int .i64 o.u) (some (A.length,o.v)):=by
  have e:openL (A++o::B)=openL A++(Value.int .i64 o.u,o.v)::openL B:=by unfold openL;simp
  have hl:(openL A).length=A.length:=by unfold openL;simp
  rw [e]
  refine ⟨by rw [List.getElem?_append_right (by omega),hl];simp,fun j q hj hq=>?_⟩
  rw [List.getElem?_append_left (by omega)] at hq
  exact openL_no h q (List.mem_of_getElem? hq)
theorem openL_set {A B:List O} {o:O} (v:Value) (l:List Nat):(openL (A++o::B)).set A.length (.int .i64 o.u,v)=openL (A++⟨o.u,v,l⟩::B):=by
  unfold openL
  rw [List.map_append,List.map_append,List.set_append_right _ _ (by simp)]
  simp
theorem openL_more {os:List O} (u:Int) (v:Value) (l:List Nat):openL os++[(.int .i64 u,v)]=openL (os++[⟨u,v,l⟩]):=by
  unfold openL
  simp
end Tc
theorem intT:KeyT Try.prog 3 Tc.okI:=KeyT.int (by kernel_rfl)
theorem map_den (b:Nat):(AV.raw (Value.map (some b))).den = .map (some b):=by rw [AV.den]
section
variable {t te:TypeId} {m:List Blk} {K:AV→List Blk→Prop} {b j jf:Nat} {os A B:List Tc.O} {o:Tc.O} {u:Int}
theorem op_look_none (hu:Try.prog.underlying t=some (.map 3 te)) (hz:zeroT Try.prog te=some (.raw (.slice none 0 0))) (hj:m[j]?=some (mapB b (Tc.openL os))) (hn:∀ o∈os,o.u≠u) (hK:K (.raw (.slice none 0 0)) m) :
    NMap Try.prog (Instr.lookup t (AV.raw (Value.map (some b))).den (AV.int .i64 u).den false) m K:=by
  rw [map_den]
  exact NMap.look_none (k:=.int .i64 u) hu hz intT (MapIn.own hj) Tc.openL_ok ⟨u,rfl⟩ (Tc.openL_no hn) hK
theorem op_look_some (hu:Try.prog.underlying t=some (.map 3 te)) (hj:m[j]?=some (mapB b (Tc.openL (A++o::B)))) (hA:∀ a∈A,a.u≠o.u) (he:o.u=u) (hf:m[jf]?=some (manyB (Tc.opB 3 (A++o::B)))) (hne:jf≠j)
    (hK:setBlkK m jf (manyB (Tc.opB 3 (A++B))) fun m'=>lenLK m' lits fun ln=>appK m' (Tc.oB 3 o) fun m''=>K (.sl ln o.v o.l.length) m'') (hsl:(∃ w,MemOk m w)→slOf o.v=o.v) :
    NMap Try.prog (Instr.lookup t (AV.raw (Value.map (some b))).den (AV.int .i64 u).den false) m K:=by
  subst he
  rw [map_den]
  have h1:=appK_spec (lenLK_spec (setBlkK_spec hK).2)
  rw [NMap_iff]
  intro w hw
  have hj2:(m.set jf (manyB (Tc.opB 3 (A++B)))++[Tc.oB 3 o])[j]?=some (mapB b (Tc.openL (A++o::B))):=by
    have hjl:=(List.getElem?_eq_some_iff.1 hj).1
    rw [List.getElem?_append_left (by rw [List.length_set];exact hjl),List.getElem?_set_ne hne,hj]
  have h2:=NMap.fits (MemFits.focus hf (Tc.opB_wr _ _) (Tc.opB_mid _ A B o)) (NMap.look_some (c:=false) (x:=.sl (m.set jf (manyB (Tc.opB 3 (A++B)))).length o.v o.l.length) hu intT (MapIn.own hj2) Tc.openL_ok ⟨o.u,rfl⟩ (Tc.openL_at hA) (by rw [AV.den];exact hsl ⟨w,hw⟩) h1)
  rw [NMap_iff] at h2
  exact h2 w hw
theorem op_upd_new {k v:AV} (hu:Try.prog.underlying t=some (.map 3 te)) (hj:m[j]?=some (mapB b (Tc.openL os))) (hn:∀ o∈os,o.u≠u) (hk:k.den = .int .i64 u) (l:List Nat) (hK:setBlkK m j (mapB b (Tc.openL (os++[⟨u,v.den,l⟩]))) (K (.raw undef))) :
    NMap Try.prog (do Instr.mapUpdate t (AV.raw (Value.map (some b))).den k.den v.den;pure undef) m K:=by
  rw [map_den,hk]
  refine NMap.upd_new hu intT hj Tc.openL_ok ⟨u,rfl⟩ (Tc.openL_no hn) ?_
  rw [Tc.openL_more u v.den l]
  exact hK
theorem op_upd_old {k v:AV} (hu:Try.prog.underlying t=some (.map 3 te)) (hj:m[j]?=some (mapB b (Tc.openL (A++o::B)))) (hA:∀ a∈A,a.u≠o.u) (hk:k.den = .int .i64 o.u) (l:List Nat) (hK:setBlkK m j (mapB b (Tc.openL (A++⟨o.u,v.den,l⟩::B))) (K (.raw undef))) :
    NMap Try.prog (do Instr.mapUpdate t (AV.raw (Value.map (some b))).den k.den v.den;pure undef) m K:=by
  rw [map_den,hk]
  refine NMap.upd_old hu intT hj Tc.openL_ok ⟨o.u,rfl⟩ (Tc.openL_at hA) ?_
  rw [Tc.openL_set v.den l]
  exact hK
end
end Go.Proofs.Ytijkmhmgigaieaa
