import Derived.Test.YtijkmhmgigaieaaSxA
namespace Go.Proofs.Ytijkmhmgigaieaa
namespace Tc
structure E where
  kind:Int
  real:Int
  u:Int
  sw:Int
  x:Int
  y:Int
structure C where
  id:Int
  fr:Int
  to:Int
  at_:Int
  sws:List Int
  end_:Int
  host:Int
  last:Int
def new (e:E):C:=⟨e.u,e.x,e.y,e.real,[],0,0,e.real⟩
def isOpen (u:Int) (c:C):Bool:=decide (c.id=u)&&decide (c.end_=0)
def opAt (out:List C) (u:Int) (k:Nat):Bool:=match out[k]? with
  | some c=>isOpen u c
  | none=>false
def stk (out:List C) (u:Int):List Nat:=(List.range out.length).filter (opAt out u)
def upd (e:E) (c:C):C:={ c with last:=e.real,sws:=if e.kind=2 then c.sws++[e.sw] else c.sws,end_:=if e.kind=2 then c.end_ else e.kind,host:=if e.kind=3 then e.x else c.host }
def step (out:List C) (e:E):List C :=
  if e.kind=1 then out++[new e]
  else if e.kind<2∨4<e.kind then out
  else match (stk out e.u).getLast? with
    | none=>out
    | some k=>match out[k]? with
      | none=>out
      | some c=>out.set k (upd e c)
def tr (l:List E):List C:=l.foldl step []
theorem tr_snoc (l:List E) (e:E):tr (l++[e])=step (tr l) e:=by unfold tr;rw [List.foldl_append];rfl
theorem opAt_iff {out:List C} {u:Int} {k:Nat}:opAt out u k=true↔∃ c,out[k]?=some c∧c.id=u∧c.end_=0:=by
  unfold opAt
  cases h:out[k]? with
  | none=>simp
  | some c=>simp [isOpen]
theorem mem_stk {out:List C} {u:Int} {k:Nat}:k∈stk out u↔∃ c,out[k]?=some c∧c.id=u∧c.end_=0:=by
  unfold stk
  rw [List.mem_filter,List.mem_range,opAt_iff]
  refine ⟨fun h=>h.2,fun h=>⟨?_,h⟩⟩
  obtain ⟨c,hc,_⟩:=h
  exact (List.getElem?_eq_some_iff.1 hc).1
theorem stk_snoc (out:List C) (c:C) (u:Int):stk (out++[c]) u=stk out u++if isOpen u c=true then [out.length] else []:=by
  unfold stk
  rw [List.length_append,List.length_singleton,List.range_succ,List.filter_append]
  congr 1
  · refine List.filter_congr fun k hk=>?_
    unfold opAt
    rw [List.getElem?_append_left (List.mem_range.1 hk)]
  · have:opAt (out++[c]) u out.length=isOpen u c:=by unfold opAt;simp
    simp only [List.filter_cons,this,List.filter_nil]
theorem stk_take {out:List C} {u:Int} {n:Nat} {c:C} (h:out[n]?=some c):stk (out.take (n+1)) u=stk (out.take n) u++if isOpen u c=true then [n] else []:=by
  obtain ⟨hn,rfl⟩:=List.getElem?_eq_some_iff.1 h
  rw [List.take_succ_eq_append_getElem hn,stk_snoc]
  rw [List.length_take,Nat.min_eq_left (by omega)]
theorem stk_new (out:List C) (e:E) (u:Int):stk (out++[new e]) u=stk out u++if e.u=u then [out.length] else []:=by
  rw [stk_snoc]
  congr 1
  have:isOpen u (new e)=decide (e.u=u):=by
    show (decide (e.u=u)&&decide ((0:Int)=0))=_
    rw [show decide ((0:Int)=0)=true from rfl,Bool.and_true]
  rw [this]
  by_cases h:e.u=u<;>simp [h]
theorem opAt_set {out:List C} {k:Nat} {c c':C} (hc:out[k]?=some c) (u:Int) (j:Nat):opAt (out.set k c') u j=if j=k then isOpen u c' else opAt out u j:=by
  unfold opAt
  by_cases h:j=k
  · subst h
    rw [List.getElem?_set_self (List.getElem?_eq_some_iff.1 hc).1,if_pos rfl]
  · rw [List.getElem?_set_ne (Ne.symm h),if_neg h]
theorem stk_keep {out:List C} {k:Nat} {c c':C} (hc:out[k]?=some c) {u:Int} (h:isOpen u c'=isOpen u c):stk (out.set k c') u=stk out u:=by
  unfold stk
  rw [List.length_set]
  refine List.filter_congr fun j hj=>?_
  rw [opAt_set hc]
  split
  · rename_i e
    subst e
    rw [h]
    unfold opAt
    rw [hc]
  · rfl
theorem nodup_stk (out:List C) (u:Int):(stk out u).Nodup:=by
  unfold stk
  exact List.Pairwise.filter _ List.nodup_range
theorem filter_ne {k:Nat}:∀ {l:List Nat},k ∉ l→l.filter (fun j=>decide (j≠k))=l
  | [],_=>rfl
  | a::l,h=>by
    rw [List.mem_cons,not_or] at h
    rw [List.filter_cons_of_pos (by simpa using Ne.symm h.1),filter_ne h.2]
theorem stk_end {out:List C} {k:Nat} {c c':C} (hc:out[k]?=some c) {u:Int} {l:List Nat} (hl:stk out u=l++[k]) (h:isOpen u c'=false):stk (out.set k c') u=l:=by
  have hn:=nodup_stk out u
  rw [hl,List.nodup_append] at hn
  have hk:k ∉ l:=fun h=>hn.2.2 k h k (by simp) rfl
  have e:stk (out.set k c') u=(stk out u).filter (fun j=>decide (j≠k)):=by
    unfold stk
    rw [List.length_set,List.filter_filter]
    refine List.filter_congr fun j hj=>?_
    rw [opAt_set hc]
    by_cases e:j=k
    · simp [e,h]
    · simp [e]
  rw [e,hl,List.filter_append,filter_ne hk]
  simp
theorem stk_at {out:List C} {u:Int} {l:List Nat} {k:Nat} (h:stk out u=l++[k]):∃ c,out[k]?=some c∧c.id=u∧c.end_=0:=mem_stk.1 (by rw [h];simp)
theorem step_new {out:List C} {e:E} (h:e.kind=1):step out e=out++[new e]:=if_pos h
theorem step_none {out:List C} {e:E} (h:e.kind≠1) (h2:e.kind<2∨4<e.kind∨stk out e.u=[]):step out e=out:=by
  unfold step
  rw [if_neg h]
  by_cases h3:e.kind<2∨4<e.kind
  · rw [if_pos h3]
  · rw [if_neg h3]
    have:stk out e.u=[]:=by
      rcases h2 with h2 | h2 | h2
      · exact (h3 (.inl h2)).elim
      · exact (h3 (.inr h2)).elim
      · exact h2
    rw [this]
    rfl
theorem step_upd {out:List C} {e:E} {l:List Nat} {k:Nat} {c:C} (h1:2≤e.kind) (h2:e.kind≤4) (hl:stk out e.u=l++[k]) (hc:out[k]?=some c):step out e=out.set k (upd e c):=by
  unfold step
  rw [if_neg (by omega),if_neg (by omega),hl,List.getLast?_concat,]
  simp only [hc]
theorem step_cases (out:List C) (e:E):(e.kind=1∧step out e=out++[new e])∨(e.kind≠1∧step out e=out)∨∃ l k c,2≤e.kind∧e.kind≤4∧stk out e.u=l++[k]∧out[k]?=some c∧c.id=e.u∧c.end_=0∧step out e=out.set k (upd e c):=by
  by_cases h1:e.kind=1
  · exact .inl ⟨h1,step_new h1⟩
  · right
    by_cases h2:e.kind<2
    · exact .inl ⟨h1,step_none h1 (.inl h2)⟩
    · by_cases h3:4<e.kind
      · exact .inl ⟨h1,step_none h1 (.inr (.inl h3))⟩
      · rcases List.eq_nil_or_concat (stk out e.u) with h4 | ⟨l,k,h4⟩
        · exact .inl ⟨h1,step_none h1 (.inr (.inr h4))⟩
        · rw [List.concat_eq_append] at h4
          obtain ⟨c,h5,h6,h7⟩:=stk_at h4
          exact .inr ⟨l,k,c,by omega,by omega,h4,h5,h6,h7,step_upd (by omega) (by omega) h4 h5⟩
theorem step_len (out:List C) (e:E):(step out e).length≤out.length+1:=by
  rcases step_cases out e with ⟨_,h⟩ | ⟨_,h⟩ | ⟨l,k,c,_,_,_,_,_,_,h⟩<;>rw [h]<;>simp
def Short (out:List C) (n:Nat):Prop:=out.length≤n∧∀ c∈out,c.sws.length≤n
theorem Short.step {out:List C} {n:Nat} (h:Short out n) (e:E):Short (step out e) (n+1):=by
  refine ⟨Nat.le_trans (step_len out e) (by have:=h.1;omega),fun c hc=>?_⟩
  rcases step_cases out e with ⟨_,h1⟩ | ⟨_,h1⟩ | ⟨l,k,c0,_,_,_,h2,_,_,h1⟩
  · rw [h1] at hc
    rcases List.mem_append.1 hc with hc | hc
    · have:=h.2 c hc;omega
    · rw [List.mem_singleton.1 hc];exact Nat.zero_le _
  · rw [h1] at hc
    have:=h.2 c hc;omega
  · rw [h1] at hc
    rcases List.mem_or_eq_of_mem_set hc with hc | rfl
    · have:=h.2 c hc;omega
    · have:=h.2 c0 (List.mem_of_getElem? h2)
      simp only [upd]
      split
      · rw [List.length_append,List.length_singleton];omega
      · omega
theorem tr_short (l:List E):Short (tr l) l.length:=by
  have:∀ n,n≤l.length→Short (tr (l.take n)) n:=fun n=>by
    induction n with
    | zero=>exact fun _=>⟨Nat.le_refl _,fun c hc=>by cases hc⟩
    | succ n ih =>
      intro hn
      rw [List.take_succ_eq_append_getElem (by omega),tr_snoc]
      exact (ih (by omega)).step _
  have h:=this l.length (Nat.le_refl _)
  rwa [List.take_length] at h
end Tc
end Go.Proofs.Ytijkmhmgigaieaa
