import Derived.Test.YtijkmhmgigaieaaSxC
import Derived.Maps.RangeRun
namespace Go.Sx
open Go.RowKit
open Go.ChangeMaps (setBlock)
set_option linter.unusedVariables false
set_option maxRecDepth 20000
def mapL (L:List (Value × Value)):List MapEntry:=L.mapIdx fun i p=>⟨p.1,p.2,i⟩
def mapObj (L:List (Value × Value)):Obj:=.map (mapL L).toArray L.length
def mapB (b:Nat) (L:List (Value × Value)):Blk:=⟨⟨b,0,none⟩,[],.obj (mapObj L)⟩
theorem mapL_len (L:List (Value × Value)):(mapL L).length=L.length:=by simp [mapL]
theorem mapL_get (L:List (Value × Value)) (i:Nat):(mapL L)[i]?=(L[i]?).map fun p=>⟨p.1,p.2,i⟩:=by simp [mapL]
section
variable {P:Program}
theorem setBlock_heap {w:World} {b k:Nat} {o o':Obj} (h:w.heap[b]?=some o):(setBlock w b o').heap[k]?=if k=b then some o' else w.heap[k]?:=by
  have hlt:=(Array.getElem?_eq_some_iff.1 h).1
  simp only [setBlock]
  rw [Array.getElem?_setIfInBounds]
  by_cases e:b=k
  · subst e;simp [hlt]
  · rw [if_neg e,if_neg (fun e'=>e e'.symm)]
theorem MemOk.obj {m:List Blk} {w:World} (hm:MemOk m w) {j b:Nat} {o:Obj} (hj:m[j]?=some ⟨⟨b,0,none⟩,[],.obj o⟩):w.heap[b]?=some o :=
  (hm.holds _ (List.mem_of_getElem? hj)).2.2.2
theorem put_mem {m:List Blk} {w w1:World} {j b:Nat} {o:Obj} (o':Obj) (hm:MemOk m w) (hj:m[j]?=some ⟨⟨b,0,none⟩,[],.obj o⟩) (hw1:w1=w∨w1=w.drew) :
    MemOk (m.set j ⟨⟨b,0,none⟩,[],.obj o'⟩) (setBlock w1 b o')∧Fr (wrs m) w (setBlock w1 b o')∧Fresh (own m) w (m.set j ⟨⟨b,0,none⟩,[],.obj o'⟩):=by
  have hb:=hm.obj hj
  have hh:w1.heap=w.heap:=by rcases hw1 with rfl | rfl<;>rfl
  have hb1:w1.heap[b]?=some o:=by rw [hh];exact hb
  have hmem:=List.mem_of_getElem? hj
  have hsz:(setBlock w1 b o').heap.size=w.heap.size:=by simp [setBlock,hh]
  have hoth:∀ k,k≠b→(setBlock w1 b o').heap[k]?=w.heap[k]?:=fun k hk=>by rw [setBlock_heap hb1,if_neg hk,hh]
  refine ⟨?_,?_,?_⟩
  · refine hm.set (Nat.le_of_eq hsz.symm) hj rfl (fun c hc hlt=>hoth c fun e=>hc (by rw [e];rfl)) ⟨rfl,rfl,rfl,?_⟩ rfl (.inr (.inl rfl))
    rw [setBlock_heap hb1,if_pos rfl]
  · refine ⟨?_,?_,?_,Nat.le_of_eq hsz.symm,fun k hk hS=>hoth k fun e=>hS ⟨_,hmem,rfl,by rw [e];rfl⟩⟩
    all_goals rcases hw1 with rfl | rfl<;>rfl
  · exact Fresh.set (Fresh.self _ _) rfl fun c hc=>.inl ⟨_,hmem,rfl,hc⟩
theorem gMap {s:Sem Value} {m:List Blk} {K:AV→List Blk→Prop} (h:NMap P s m K):NMap P s m K:=h
theorem NMap.put {s:Sem Value} {m:List Blk} {K:AV→List Blk→Prop} {j b:Nat} {o o':Obj} {r:AV} (hj:m[j]?=some ⟨⟨b,0,none⟩,[],.obj o⟩)
    (h:∀ w,w.heap[b]?=some o→MemOk m w→∃ w1,(w1=w∨w1=w.drew)∧s.run P w = .ok r.den (setBlock w1 b o')) (hK:K r (m.set j ⟨⟨b,0,none⟩,[],.obj o'⟩)):NMap P s m K:=by
  rw [NMap_iff]
  intro w hm
  obtain ⟨w1,hw1,hrun⟩:=h w (hm.obj hj) hm
  obtain ⟨h1,h2,h3⟩:=put_mem o' hm hj hw1
  exact ⟨r,_,_,hrun,hK,h1,h2,h3⟩
theorem NMap.read {s:Sem Value} {m:List Blk} {K:AV→List Blk→Prop} {r:AV} (h:∀ w,MemOk m w→s.run P w = .ok r.den w) (hK:K r m):NMap P s m K:=by
  rw [NMap_iff]
  exact fun w hm=>⟨r,m,w,h w hm,hK,hm,Fr.refl _ _,Fresh.self _ _⟩
theorem NMap.new {s:Sem Value} {m:List Blk} {K:AV→List Blk→Prop} {o:Obj} {r:Nat→AV} (h:∀ w,MemOk m w→s.run P w = .ok (r w.heap.size).den (w.alloc o)) (hK:∀ b,K (r b) (m++[⟨⟨b,0,none⟩,[],.obj o⟩])):NMap P s m K:=by
  rw [NMap_iff]
  intro w hm
  refine ⟨_,_,_,h w hm,hK _,?_,Fr.alloc _ _ _,?_⟩
  · refine hm.push (by simp) (fun k hk b hb=>Below.heap_alloc _ _ _ ((hm.holds k hk).lt hb)) ?_ (fun b hb=>?_)
    · exact ⟨rfl,rfl,rfl,heap_alloc_new w _⟩
    · simp [Blk.foot,Blk.bn] at hb;omega
  · refine (Fresh.self _ _).push (rfl) fun b hb=>?_
    simp [Blk.bn] at hb
    omega
structure KeyT (P:Program) (kt:TypeId) (ok:Value→Prop):Prop where
  check:∀ e x w,ok x→(Instr.checkKey e 10000 kt x).run P w = .ok () w
  under:∃ td,P.underlying kt=some td∧∀ x y,ok x→ok y→Instr.sameNow td x y=none∨(x=y∧Instr.sameNow td x y=some true)∨(x≠y∧Instr.sameNow td x y=some false)
  eq:∀ x y w,ok x→ok y→(x=y∧(Op.equal kt x y).run P w = .ok true w)∨(x≠y∧(Op.equal kt x y).run P w = .ok false w)
  bits:∀ x,ok x→Instr.sameBits 10000 x x=true
def FirstIs (L:List (Value × Value)) (k:Value):Option (Nat × Value)→Prop
  | none=>∀ q∈L,q.1≠k
  | some (i,v)=>L[i]?=some (k,v)∧∀ j q,j<i→L[j]?=some q→q.1≠k
def FirstE (L:List MapEntry) (k:Value):Option (Nat × Value)→Prop
  | none=>∀ q∈L,q.key≠k
  | some (i,v)=>(∃ q,L[i]?=some q∧q.key=k∧q.val=v)∧∀ (j:Nat) (q:MapEntry),j<i→L[j]?=some q→q.key≠k
theorem FirstIs.e {L:List (Value × Value)} {k:Value} {r:Option (Nat × Value)} (h:FirstIs L k r):FirstE (mapL L) k r:=by
  cases r with
  | none =>
    intro q hq
    obtain ⟨i,hi⟩:=List.getElem?_of_mem hq
    rw [mapL_get] at hi
    cases hL:L[i]? with
    | none=>rw [hL] at hi;cases hi
    | some p =>
      rw [hL] at hi
      injection hi with hi
      subst hi
      exact h p (List.mem_of_getElem? hL)
  | some x =>
    obtain ⟨i,v⟩:=x
    refine ⟨⟨⟨k,v,i⟩,by rw [mapL_get,h.1];rfl,rfl,rfl⟩,fun j q hj hq=>?_⟩
    rw [mapL_get] at hq
    cases hL:L[j]? with
    | none=>rw [hL] at hq;cases hq
    | some p =>
      rw [hL] at hq
      injection hq with hq
      subst hq
      exact h.2 j p hj hL
theorem FirstE.tail {e:MapEntry} {L:List MapEntry} {k:Value} (hne:e.key≠k) {r:Option (Nat × Value)} (h:FirstE (e::L) k r):∃ r',FirstE L k r'∧r=r'.map fun p=>(p.1+1,p.2):=by
  cases r with
  | none=>exact ⟨none,fun q hq=>h q (List.mem_cons_of_mem _ hq),rfl⟩
  | some x =>
    obtain ⟨i,v⟩:=x
    obtain ⟨⟨q,h1,h2,h3⟩,h4⟩:=h
    cases i with
    | zero=>simp at h1;subst h1;exact absurd h2 hne
    | succ i=>exact ⟨some (i,v),⟨⟨q,by simpa using h1,h2,h3⟩,fun j p hj hp=>h4 (j+1) p (by omega) (by simpa using hp)⟩,rfl⟩
theorem FirstE.head {e:MapEntry} {L:List MapEntry} {r:Option (Nat × Value)} (h:FirstE (e::L) e.key r):r=some (0,e.val):=by
  cases r with
  | none=>exact absurd rfl (h e (by simp))
  | some x =>
    obtain ⟨i,v⟩:=x
    obtain ⟨⟨q,h1,h2,h3⟩,h4⟩:=h
    cases i with
    | zero=>simp at h1;subst h1;rw [h3]
    | succ i=>exact absurd rfl (h4 0 e (by omega) rfl)
theorem findAsking_run {kt:TypeId} {ok:Value→Prop} (hK:KeyT P kt ok) {k:Value} (hk:ok k) (w:World):∀ (L:List MapEntry) (i:Nat) (r:Option (Nat × Value)),(∀ q∈L,ok q.key)→FirstE L k r →
    (Instr.findAsking kt k L i).run P w = .ok (r.map fun p=>(p.1+i,p.2)) w
  | [],i,r,_,h=>by
    cases r with
    | none=>rfl
    | some x=>obtain ⟨⟨q,h1,_⟩,_⟩:=h;simp at h1
  | e::L,i,r,hL,h=>by
    unfold Instr.findAsking
    rw [Sem.run_bind]
    rcases hK.eq k e.key w hk (hL e (by simp)) with ⟨h1,h2⟩ | ⟨h1,h2⟩
    · subst h1
      rw [h2,h.head]
      simp
    · obtain ⟨r',h3,rfl⟩:=h.tail (Ne.symm h1)
      rw [h2]
      simp only [Result.andThen_ok,Bool.false_eq_true,if_false]
      rw [findAsking_run hK hk w L (i+1) r' (fun q hq=>hL q (List.mem_cons_of_mem _ hq)) h3]
      cases r' with
      | none=>rfl
      | some p=>simp only [Option.map_some];rw [show p.1+(i+1)=p.1+1+i by omega]
theorem findNow_run {td:TypeDesc} {ok:Value→Prop} (hT:∀ x y,ok x→ok y→Instr.sameNow td x y=none∨(x=y∧Instr.sameNow td x y=some true)∨(x≠y∧Instr.sameNow td x y=some false)) {k:Value} (hk:ok k):∀ (L:List MapEntry) (i:Nat) (r:Option (Nat × Value)),(∀ q∈L,ok q.key)→FirstE L k r →
    Instr.findNow td k L i=none∨Instr.findNow td k L i=some (r.map fun p=>(p.1+i,p.2))
  | [],i,r,_,h=>by
    cases r with
    | none=>exact .inr rfl
    | some x=>obtain ⟨⟨q,h1,_⟩,_⟩:=h;simp at h1
  | e::L,i,r,hL,h=>by
    unfold Instr.findNow
    rcases hT k e.key hk (hL e (by simp)) with h1 | ⟨h1,h2⟩ | ⟨h1,h2⟩
    · rw [h1];exact .inl rfl
    · rw [h2]
      subst h1
      rw [h.head]
      exact .inr (by simp)
    · rw [h2]
      obtain ⟨r',h3,rfl⟩:=h.tail (Ne.symm h1)
      rcases findNow_run hT hk L (i+1) r' (fun q hq=>hL q (List.mem_cons_of_mem _ hq)) h3 with h4 | h4
      · exact .inl h4
      · refine .inr ?_
        simp only
        rw [h4]
        cases r' with
        | none=>rfl
        | some p=>simp only [Option.map_some];rw [show p.1+(i+1)=p.1+1+i by omega]
theorem findKey_run {kt:TypeId} {ok:Value→Prop} (hK:KeyT P kt ok) {L:List (Value × Value)} {k:Value} {r:Option (Nat × Value)} (hL:∀ q∈L,ok q.1) (hk:ok k) (h:FirstIs L k r) (w:World) :
    (Instr.findKey kt k (mapL L)).run P w = .ok r w:=by
  have hL':∀ q∈mapL L,ok q.key:=fun q hq=>by
    obtain ⟨i,hi⟩:=List.getElem?_of_mem hq
    rw [mapL_get] at hi
    cases hLi:L[i]? with
    | none=>rw [hLi] at hi;cases hi
    | some p =>
      rw [hLi] at hi
      injection hi with hi
      subst hi
      exact hL p (List.mem_of_getElem? hLi)
  obtain ⟨td,hu,hT⟩:=hK.under
  have e:r.map (fun p=>(p.1+0,p.2))=r:=by cases r<;>rfl
  unfold Instr.findKey
  rw [Sem.run_bind,run_underlying hu,Result.andThen_ok]
  rcases findNow_run hT hk (mapL L) 0 r hL' h.e with h1 | h1
  · rw [h1]
    have:=findAsking_run hK hk w (mapL L) 0 r hL' h.e
    rw [e] at this
    exact this
  · rw [h1,e]
    rfl
theorem NMap.make {t:TypeId} {m:List Blk} {K:AV→List Blk→Prop} (h:∀ b,appK m (mapB b []) (K (.raw (.map (some b))))):NMap P (Instr.makeMap t none) m K :=
  NMap.new (o:=mapObj []) (r:=fun b=>.raw (.map (some b))) (fun w _=>rfl) fun b=>appK_spec (h b)
theorem run_getObj {w:World} {b:Nat} {es:Array MapEntry} {c:Nat} (h:w.heap[b]?=some (.map es c)):(getObj b).run P w = .ok (.map es c) w:=by simp [getObj,Sem.run,h]
theorem run_setObj {w:World} {b:Nat} {es es':Array MapEntry} {c c':Nat} (h:w.heap[b]?=some (.map es c)):(setObj b (.map es' c')).run P w = .ok () (setBlock w b (.map es' c')):=by
  simp [setObj,Sem.run,h,setBlock]
theorem mapL_push (L:List (Value × Value)) (k v:Value):(mapL L).toArray.push ⟨k,v,L.length⟩=(mapL (L++[(k,v)])).toArray:=by
  simp [mapL,List.mapIdx_append]
theorem NMap.upd_new {t kt et:TypeId} {ok:Value→Prop} {m:List Blk} {K:AV→List Blk→Prop} {j b:Nat} {L:List (Value × Value)} {k v:Value} (hu:P.underlying t=some (.map kt et)) (hT:KeyT P kt ok) (hj:m[j]?=some (mapB b L)) (hL:∀ q∈L,ok q.1) (hk:ok k)
    (hno:∀ q∈L,q.1≠k) (hK:setBlkK m j (mapB b (L++[(k,v)])) (K (.raw undef))):NMap P (do Instr.mapUpdate t (.map (some b)) k v;pure undef) m K:=by
  have hK:=(setBlkK_spec hK).2
  refine NMap.put (o:=mapObj L) (o':=mapObj (L++[(k,v)])) (r:=.raw undef) hj (fun w hb hm=>⟨w,.inl rfl,?_⟩) hK
  have hf:=findKey_run hT hL hk (r:=none) hno w
  simp only [Instr.mapUpdate,Sem.run_bind,run_underlying hu,Result.andThen_ok]
  simp only [run_getObj hb,Result.andThen_ok,mapObj,Sem.run_bind,hT.check false k w hk,hf,run_setObj hb,AV.den,mapL_push]
  simp [Sem.run_pure]
theorem NMap.upd_old {t kt et:TypeId} {ok:Value→Prop} {m:List Blk} {K:AV→List Blk→Prop} {j b i:Nat} {L:List (Value × Value)} {k v v0:Value} (hu:P.underlying t=some (.map kt et)) (hT:KeyT P kt ok) (hj:m[j]?=some (mapB b L)) (hL:∀ q∈L,ok q.1) (hk:ok k)
    (hi:FirstIs L k (some (i,v0))) (hK:setBlkK m j (mapB b (L.set i (k,v))) (K (.raw undef))):NMap P (do Instr.mapUpdate t (.map (some b)) k v;pure undef) m K:=by
  have hK:=(setBlkK_spec hK).2
  refine NMap.put (o:=mapObj L) (o':=mapObj (L.set i (k,v))) (r:=.raw undef) hj (fun w hb hm=>⟨w,.inl rfl,?_⟩) hK
  have hf:=findKey_run hT hL hk (r:=some (i,v0)) hi w
  have hi':(mapL L).toArray[i]?=some ⟨k,v0,i⟩:=by rw [List.getElem?_toArray,mapL_get,hi.1];rfl
  have hm':((mapL L).toArray.modify i fun e=>{ e with key:=k,val:=v })=(mapL (L.set i (k,v))).toArray:=by
    apply Array.ext_getElem?
    intro n
    rw [Array.getElem?_modify,List.getElem?_toArray,List.getElem?_toArray,mapL_get,mapL_get,List.getElem?_set]
    have hlt:=(List.getElem?_eq_some_iff.1 hi.1).1
    by_cases e:i=n
    · subst e
      simp [hlt]
    · simp [e]
  simp only [Instr.mapUpdate,Sem.run_bind,run_underlying hu,Result.andThen_ok]
  simp only [run_getObj hb,Result.andThen_ok,mapObj,Sem.run_bind,hT.check false k w hk,hf,hi',Option.map_some,Option.getD_some,Instr.keyThatStays,hT.bits k hk,if_true,Sem.run_pure,run_setObj hb,AV.den,hm',List.length_set]
theorem flat_check (em:Bool) (w:World):∀ (n d:Nat) (t:TypeId) (ls:List Leaf) (x:AV) (xs:List AV),leafT P n t=some ls→flatT P n t=true→ShapeT P t x xs→(∃ b,eqCells ls xs xs=some b) →
    (Instr.checkKey em (d+n) t x.den).run P w = .ok () w
  | 0,_,_,_,_,_,h,_,_,_=>by simp [leafT] at h
  | n+1,d,t,ls,x,xs,hl,hf,hx,he=>by
    rw [← Nat.add_assoc]
    unfold leafT at hl
    unfold flatT at hf
    cases hu:P.underlying t with
    | none=>simp [hu] at hl
    | some kd =>
      cases hs:szT P t with
      | none=>simp [hu,hs] at hf
      | some s =>
        rw [hu] at hl
        rw [hu,hs] at hf
        unfold Instr.checkKey
        rw [Sem.run_bind,run_underlying hu,Result.andThen_ok]
        cases kd<;>simp only [Option.some.injEq,reduceCtorEq] at hl
        case bool=>rfl
        case int k=>rfl
        case string=>rfl
        case struct fs =>
          have ha:aggT P t=some true:=by simp [aggT,hu]
          have hx':x = .agg xs:=by
            rcases hx with ⟨_,h⟩ | ⟨h1,_⟩
            · exact h
            · rw [ha] at h1;cases h1
          subst hx'
          simp only [Bool.and_eq_true,Bool.not_eq_true',beq_iff_eq] at hf
          simp only [AV.den]
          rw [← Array.forIn_toList]
          have h2:=hf.2
          have h3:∃ b,eqCells ls (xs.drop 0) (xs.drop 0)=some b:=by simpa using he
          have h0:0≤xs.length:=Nat.zero_le _
          clear he hf hx hs
          generalize fs.toList=L at hl h2 ⊢
          generalize (0:Nat)=o at h2 h3 h0
          induction L generalizing o ls with
          | nil=>simp
          | cons f L ih =>
            simp only [leafF] at hl
            split at hl
            · rename_i lx ly hlx hly
              injection hl with hl
              subst hl
              simp only [flatF] at h2
              split at h2
              · rename_i s1 hb hs1
                have hs2:=flat_size n f.type lx hlx hb
                rw [hs2] at hs1
                injection hs1 with hs1
                subst hs1
                split at h2
                · rename_i h4 h5
                  simp only [beq_iff_eq,beq_eq_false_iff_ne,ne_eq] at h4 h5
                  obtain ⟨b,h3⟩:=h3
                  obtain ⟨b1,b2,h6,h7,rfl⟩:=eqCells_append h3
                  have hlen:=eqCells_length h3
                  simp only [List.length_drop,List.length_append] at hlen
                  obtain ⟨u,hu1,hu2⟩:=flat_part hlx hb (cs:=xs) (off:=o) (by omega)
                  have hr:=flat_check em w n d f.type lx u _ hlx hb hu2 ⟨b1,h6⟩
                  rw [List.drop_drop] at h7
                  have hi:=ih ly hly (o+lx.length) h2 ⟨b2,h7⟩ (by omega)
                  simp only [List.forIn_cons,Sem.run_bind,h4,h5,ne_eq,not_false_eq_true,if_true,hu1.runPart w,Result.andThen_ok,hr,Sem.run_pure] at hi ⊢
                  exact hi
                · cases h2
              · cases h2
            · cases hl
        case array len e =>
          have ha:aggT P t=some true:=by simp [aggT,hu]
          have hx':x = .agg xs:=by
            rcases hx with ⟨_,h⟩ | ⟨h1,_⟩
            · exact h
            · rw [ha] at h1;cases h1
          subst hx'
          split at hl
          · rename_i l hle
            injection hl with hl
            subst hl
            simp only [Bool.and_eq_true] at hf
            have hse:=flat_size n e l hle hf.1
            simp only [AV.den]
            simp only [Std.Legacy.Range.forIn_eq_forIn_range',Std.Legacy.Range.size,Nat.sub_zero,Nat.add_one_sub_one,Nat.div_one]
            have key:∀ (m k:Nat),(∃ b,eqCells (repLeaf l m) (xs.drop (k*l.length)) (xs.drop (k*l.length))=some b) →
                (forIn (List.range' k m) PUnit.unit fun i r=>do
                  Instr.checkKey em (d+n) e (← part e (denL xs).toArray (i*(← sizeOf e)))
                  pure PUnit.unit
                  pure (ForInStep.yield PUnit.unit):Sem PUnit).run P w = .ok PUnit.unit w:=by
              intro m
              induction m with
              | zero=>intro k _;simp
              | succ m ih =>
                intro k ⟨b,h3⟩
                simp only [repLeaf] at h3
                have hlen:=eqCells_length h3
                simp only [List.length_drop,List.length_append] at hlen
                obtain ⟨b1,b2,h6,h7,rfl⟩:=eqCells_append h3
                rw [List.drop_drop] at h7
                have hc:l.length=0→k*l.length=0:=fun h=>by rw [h,Nat.mul_zero]
                obtain ⟨u,hu1,hu2⟩:=flat_part hle hf.1 (cs:=xs) (off:=k*l.length) (by omega)
                have hr:=flat_check em w n d e l u _ hle hf.1 hu2 ⟨b1,h6⟩
                have hi:=ih (k+1) ⟨b2,by rw [Nat.add_mul,Nat.one_mul];exact h7⟩
                simp only [List.range'_succ,List.forIn_cons,Sem.run_bind,run_sizeOf hse,hu1.runPart w,Result.andThen_ok,hr,Sem.run_pure]
                exact hi
            have:=key len 0 (by simpa using he)
            simp only [Sem.run_bind,Sem.run_pure] at this ⊢
            rw [this]
            rfl
          · cases hl
def intsA (l:List Int):List AV:=l.map fun n=>.int .i64 n
def intsV (l:List Int):Value:=.agg (l.map fun n=>Value.int .i64 n).toArray
theorem intsA_den (l:List Int):(AV.agg (intsA l)).den=intsV l:=by
  unfold intsA intsV
  rw [AV.den]
  congr 2
  induction l with
  | nil=>rfl
  | cons x l ih=>rw [List.map_cons,denL,ih,List.map_cons];rfl
theorem eqCells_ints:∀ (a b:List Int),a.length=b.length→eqCells (List.replicate a.length .i) (intsA a) (intsA b)=some (decide (a=b))
  | [],[],_=>by simp [intsA,eqCells]
  | [],_::_,h=>by simp at h
  | _::_,[],h=>by simp at h
  | x::a,y::b,h=>by
    have ih:=eqCells_ints a b (by simpa using h)
    unfold intsA at *
    simp only [List.map_cons,List.length_cons,List.replicate_succ,eqCells,ih,eqCell,sameKind]
    by_cases h1:x=y<;>by_cases h2:a=b<;>simp [h1,h2]
theorem KeyT.ints {kt:TypeId} {n:Nat} (hl:leafT P 8 kt=some (List.replicate n .i)) (hf:flatT P 8 kt=true) (ha:aggT P kt=some true):KeyT P kt fun v=>∃ l:List Int,l.length=n∧v=intsV l where
  check e x w:=by
    rintro ⟨l,rfl,rfl⟩
    rw [← intsA_den]
    exact flat_check e w 8 9992 kt _ _ (intsA l) hl hf (.inl ⟨ha,rfl⟩) ⟨_,eqCells_ints l l rfl⟩
  under:=by
    unfold aggT at ha
    cases hu:P.underlying kt with
    | none=>rw [hu] at ha;cases ha
    | some td =>
      refine ⟨td,rfl,fun x y hx hy=>.inl ?_⟩
      obtain ⟨l,_,rfl⟩:=hx
      obtain ⟨l',_,rfl⟩:=hy
      cases td<;>rfl
  eq x y w:=by
    rintro ⟨a,ha1,rfl⟩ ⟨b,hb1,rfl⟩
    have he:=eqCells_ints a b (by omega)
    rw [ha1] at he
    have h1:=flat_equal w 8 9992 kt _ (.agg (intsA a)) (.agg (intsA b)) _ _ _ hl hf (.inl ⟨ha,rfl⟩) (.inl ⟨ha,rfl⟩) he
    rw [intsA_den,intsA_den] at h1
    by_cases e:a=b
    · subst e
      rw [show decide (a=a)=true by simp] at h1
      exact .inl ⟨rfl,h1⟩
    · rw [decide_eq_false e] at h1
      refine .inr ⟨fun h=>e ?_,h1⟩
      unfold intsV at h
      injection h with h
      have h2:=congrArg Array.toList h
      simp only  at h2
      exact (List.map_inj_right (fun p q h=>by injection h)).1 h2
  bits x:=by
    rintro ⟨l,_,rfl⟩
    unfold intsV
    have:∀ (k:Nat) (a:List Int),((a.map fun n=>Value.int .i64 n).zip (a.map fun n=>Value.int .i64 n)).all (fun (x,y)=>Instr.sameBits k x y)=true:=fun k a=>by
      induction a with
      | nil=>rfl
      | cons x a ih=>simp only [List.map_cons,List.zip_cons_cons,List.all_cons,ih,Bool.and_true];simp [Instr.sameBits]
    simp only [Instr.sameBits,beq_self_eq_true,Bool.true_and]
    exact this _ l
theorem KeyT.int {kt:TypeId} (hu:P.underlying kt=some (.int .i64)):KeyT P kt fun v=>∃ n:Int,v = .int .i64 n where
  check e x w:=by
    rintro ⟨n,rfl⟩
    rw [show (10000:Nat)=9999+1 from rfl,Instr.checkKey,Sem.run_bind,run_underlying hu]
    rfl
  under:=⟨_,hu,fun x y hx hy=>by
    obtain ⟨a,rfl⟩:=hx
    obtain ⟨b,rfl⟩:=hy
    by_cases e:a=b
    · subst e;exact .inr (.inl ⟨rfl,by simp [Instr.sameNow]⟩)
    · exact .inr (.inr ⟨fun h=>e (by injection h),by simp [Instr.sameNow,e]⟩)⟩
  eq x y w:=by
    rintro ⟨a,rfl⟩ ⟨b,rfl⟩
    have h1:(Op.equal kt (.int .i64 a) (.int .i64 b)).run P w = .ok (a == b) w:=run_equalIn_int w 9999 kt _ _ _ _ hu
    by_cases e:a=b
    · subst e;exact .inl ⟨rfl,by simpa using h1⟩
    · exact .inr ⟨fun h=>e (by injection h),by rw [h1,show (a == b)=false by simp [e]]⟩
  bits x:=by
    rintro ⟨n,rfl⟩
    simp [Instr.sameBits]
def MapIn (m:List Blk) (b:Nat) (L:List (Value × Value)):Prop:=∀ w,MemOk m w→w.heap[b]?=some (mapObj L)
theorem MapIn.own {m:List Blk} {j b:Nat} {L:List (Value × Value)} (hj:m[j]?=some (mapB b L)):MapIn m b L:=fun w hm=>hm.obj hj
theorem NMap.look_some {t kt et:TypeId} {ok:Value→Prop} {m:List Blk} {K:AV→List Blk→Prop} {b i:Nat} {L:List (Value × Value)} {k v:Value} {c:Bool} {x:AV} (hu:P.underlying t=some (.map kt et)) (hT:KeyT P kt ok) (hb:MapIn m b L) (hL:∀ q∈L,ok q.1) (hk:ok k)
    (hi:FirstIs L k (some (i,v))) (hx:x.den=v) (hK:K (if c then .tup [x,.bool true] else x) m):NMap P (Instr.lookup t (.map (some b)) k c) m K:=by
  refine NMap.read (r:=if c then .tup [x,.bool true] else x) (fun w hm=>?_) hK
  have hf:=findKey_run hT hL hk hi w
  have hb:=hb w hm
  unfold mapObj at hb
  simp only [Instr.lookup,Sem.run_bind,run_underlying hu,Result.andThen_ok,run_getObj hb,Sem.run_pure]
  rw [hT.check _ k w hk]
  simp only [Result.andThen_ok,hf,Sem.run_bind,Sem.run_pure]
  cases c
  · simp [hx]
  · simp [AV.den,denL,hx]
theorem NMap.look_none {t kt et:TypeId} {ok:Value→Prop} {m:List Blk} {K:AV→List Blk→Prop} {b:Nat} {L:List (Value × Value)} {k:Value} {c:Bool} {z:AV} (hu:P.underlying t=some (.map kt et)) (hz:zeroT P et=some z) (hT:KeyT P kt ok) (hb:MapIn m b L) (hL:∀ q∈L,ok q.1) (hk:ok k)
    (hi:∀ q∈L,q.1≠k) (hK:K (if c then .tup [z,.bool false] else z) m):NMap P (Instr.lookup t (.map (some b)) k c) m K:=by
  refine NMap.read (r:=if c then .tup [z,.bool false] else z) (fun w hm=>?_) hK
  have hf:=findKey_run hT hL hk (r:=none) hi w
  have hb:=hb w hm
  unfold mapObj at hb
  simp only [Instr.lookup,Sem.run_bind,run_underlying hu,Result.andThen_ok,run_getObj hb,Sem.run_pure]
  rw [hT.check _ k w hk]
  simp only [Result.andThen_ok,hf,Sem.run_bind,Sem.run_pure,zeroT_run hz]
  cases c
  · simp
  · simp [AV.den,denL]
theorem NMap.entry_old {t kt et:TypeId} {ok:Value→Prop} {m:List Blk} {K:AV→List Blk→Prop} {j b i:Nat} {L:List (Value × Value)} {k v:Value} {x:AV} (hu:P.underlying t=some (.map kt et)) (hT:KeyT P kt ok) (hj:m[j]?=some (mapB b L)) (hL:∀ q∈L,ok q.1) (hk:ok k)
    (hi:FirstIs L k (some (i,v))) (hx:x.den=v) (hK:setBlkK m j (mapB b L) (K (.tup [x,.int .i64 i]))):NMap P (Instr.mapEntry t (.map (some b)) k) m K:=by
  have hK:=(setBlkK_spec hK).2
  refine NMap.put (o:=mapObj L) (o':=mapObj L) (r:=.tup [x,.int .i64 i]) hj (fun w hb hm=>⟨w,.inl rfl,?_⟩) hK
  have hf:=findKey_run hT hL hk hi w
  have hi':(mapL L).toArray[i]?=some ⟨k,v,i⟩:=by rw [List.getElem?_toArray,mapL_get,hi.1];rfl
  have hm':((mapL L).toArray.modify i fun e=>{ e with key:=k })=(mapL L).toArray:=by
    apply Array.ext_getElem?
    intro n
    rw [Array.getElem?_modify]
    split
    · rename_i e
      subst e
      rw [hi']
      rfl
    · rfl
  unfold mapObj at hb ⊢
  simp only [Instr.mapEntry,Sem.run_bind,run_underlying hu,Result.andThen_ok,run_getObj hb]
  rw [hT.check _ k w hk]
  simp only [Result.andThen_ok,hf,Sem.run_bind,Sem.run_pure,hi',Option.map_some,Option.getD_some,Instr.keyThatStays,hT.bits k hk,if_true,hm',run_setObj hb,AV.den,denL,hx]
  rfl
theorem NMap.entry_new {t kt et:TypeId} {ok:Value→Prop} {m:List Blk} {K:AV→List Blk→Prop} {j b:Nat} {L:List (Value × Value)} {k:Value} {z:AV} (hu:P.underlying t=some (.map kt et)) (hz:zeroT P et=some z) (hT:KeyT P kt ok) (hj:m[j]?=some (mapB b L)) (hL:∀ q∈L,ok q.1) (hk:ok k)
    (hi:∀ q∈L,q.1≠k) (hK:setBlkK m j (mapB b (L++[(k,z.den)])) (K (.tup [z,.int .i64 L.length]))):NMap P (Instr.mapEntry t (.map (some b)) k) m K:=by
  have hK:=(setBlkK_spec hK).2
  refine NMap.put (o:=mapObj L) (o':=mapObj (L++[(k,z.den)])) (r:=.tup [z,.int .i64 L.length]) hj (fun w hb hm=>⟨w,.inl rfl,?_⟩) hK
  have hf:=findKey_run hT hL hk (r:=none) hi w
  unfold mapObj at hb ⊢
  simp only [Instr.mapEntry,Sem.run_bind,run_underlying hu,Result.andThen_ok,run_getObj hb]
  rw [hT.check _ k w hk]
  simp only [Result.andThen_ok,hf,Sem.run_bind,Sem.run_pure,zeroT_run hz,run_setObj hb,AV.den,denL,mapL_push,List.length_append,List.length_cons,List.length_nil]
  rfl
theorem mapL_born (L:List (Value × Value)) {i:Nat} (h:i<L.length):(mapL L).toArray.findIdx? (fun e=>(e.born:Int) == (i:Int))=some i:=by
  rw [List.findIdx?_toArray,List.findIdx?_eq_some_iff_getElem]
  have hl:i<(mapL L).length:=by rw [mapL_len];exact h
  have hb:∀ j (hj:j<(mapL L).length),((mapL L)[j]).born=j:=fun j hj=>by
    have:=mapL_get L j
    rw [List.getElem?_eq_getElem hj,List.getElem?_eq_getElem (by rw [mapL_len] at hj;exact hj)] at this
    simp only [Option.map_some,Option.some.injEq] at this
    rw [this]
  refine ⟨hl,by rw [hb i hl];simp,fun j hj=>?_⟩
  rw [hb j (by omega)]
  simp
  omega
theorem NMap.entry_store {t:TypeId} {m:List Blk} {K:AV→List Blk→Prop} {j b i:Nat} {L:List (Value × Value)} {k v v0:Value} (hj:m[j]?=some (mapB b L)) (hi:L[i]?=some (k,v0)) (hK:setBlkK m j (mapB b (L.set i (k,v))) (K (.raw undef))) :
    NMap P (do Instr.entryStore t (.map (some b)) (.int .i64 i) v;pure undef) m K:=by
  have hK:=(setBlkK_spec hK).2
  refine NMap.put (o:=mapObj L) (o':=mapObj (L.set i (k,v))) (r:=.raw undef) hj (fun w hb hm=>⟨w,.inl rfl,?_⟩) hK
  have hlt:=(List.getElem?_eq_some_iff.1 hi).1
  have hm':((mapL L).toArray.modify i fun e=>{ e with val:=v })=(mapL (L.set i (k,v))).toArray:=by
    apply Array.ext_getElem?
    intro n
    rw [Array.getElem?_modify,List.getElem?_toArray,List.getElem?_toArray,mapL_get,mapL_get,List.getElem?_set]
    by_cases e:i=n
    · subst e
      have hk:L[i].1=k:=by
        have:=List.getElem?_eq_getElem hlt
        rw [hi] at this
        injection this with this
        rw [← this]
      simp [hlt,hk]
    · simp [e]
  unfold mapObj at hb ⊢
  simp only [Instr.entryStore,Sem.run_bind,Sem.run_pure,Result.andThen_ok,run_getObj hb,asInt,asIntOf,mapL_born L hlt,hm',run_setObj hb,AV.den,List.length_set]
end
end Go.Sx
