import Derived.Test.YtijkmhmgigaieaaTp1
namespace Go.Proofs.Ytijkmhmgigaieaa
open Go.Sx
set_option maxRecDepth 20000
set_option linter.unusedVariables false
namespace Tp
abbrev Pl:=Int × Int
def lkP (x:Lk):List Pl:=[(x.a,x.pa),(x.b,x.pb)]
def hsP (x:Hs):Pl:=(x.at_,x.port)
def places (t:T):List Pl:=t.ls.flatMap lkP++t.hs.map hsP
def lkOk (x:Lk):Bool:=decide (¬ x.a=x.b∧1≤x.least∧x.least≤x.most∧x.most≤1000)
def plOk (t:T) (q:Pl):Bool:=decide ((0≤q.1∧q.1<t.n)∧0≤q.2∧q.2<8)
def bounds (t:T):Bool:=decide ((1≤t.n∧t.n≤8)∧t.ls.length≤24∧t.hs.length≤8)
def right (t:T):Bool:=bounds t&&(t.ls.all lkOk&&((places t).all (plOk t)&&decide (places t).Nodup))
def cnt (t:T) (q:Pl):Nat:=(places t).count q
def port (t:T) (q:Pl):Bool:=plOk t q&&decide (cnt t q=1)
theorem all_next {α:Type} {q:α→Bool} {l:List α} {k:Nat} {x:α} (hx:l[k]?=some x):(l.take (k+1)).all q=((l.take k).all q&&q x):=by
  rw [List.take_add_one,hx,List.all_append]
  simp
theorem all_not {α:Type} {q:α→Bool} {l:List α} {k:Nat} {x:α} (hx:l[k]?=some x) (h:q x=false):l.all q=false:=by
  rw [List.all_eq_false]
  exact ⟨x,List.mem_of_getElem? hx,by rw [h];simp⟩
theorem right_bounds {t:T} (h:bounds t=false):right t=false:=by unfold right;rw [h];rfl
theorem right_lk {t:T} (h:t.ls.all lkOk=false):right t=false:=by unfold right;rw [h];simp
theorem right_pl {t:T} (h:(places t).all (plOk t)=false):right t=false:=by unfold right;rw [h];simp
theorem right_dup {t:T} (h:¬ (places t).Nodup):right t=false:=by unfold right;rw [decide_eq_false h];simp
theorem right_ok {t:T} (h:bounds t=true) (h2:t.ls.all lkOk=true) (h3:(places t).all (plOk t)=true) (h4:(places t).Nodup):right t=true:=by unfold right;rw [h,h2,h3,decide_eq_true h4];rfl
theorem nodup_take {l:List Pl} {k:Nat} {x:Pl} (hx:l[k]?=some x) (h:(l.take k).Nodup) (hno:x ∉ l.take k):(l.take (k+1)).Nodup:=by
  rw [List.take_add_one,hx]
  exact List.nodup_append.2 ⟨h,by simp,fun a ha b hb e=>by simp at hb;subst hb;subst e;exact hno ha⟩
theorem dup_take {l:List Pl} {k:Nat} {x:Pl} (hx:l[k]?=some x) (h:x∈l.take k):¬ l.Nodup:=fun hn=>by
  have h2:(l.take (k+1)).Nodup:=hn.sublist (List.take_sublist ..)
  rw [List.take_add_one,hx] at h2
  exact (List.nodup_append.1 h2).2.2 x h x (by simp) rfl
theorem places_len (t:T):(places t).length=2*t.ls.length+t.hs.length:=by
  unfold places
  rw [List.length_append,List.length_map]
  congr 1
  induction t.ls with
  | nil=>rfl
  | cons x l ih=>rw [List.flatMap_cons,List.length_append,ih,List.length_cons];show 2+_=_;omega
theorem port_all (t:T) (hl:t.ls.all lkOk=true):(t.ls.all (fun x=>port t (x.a,x.pa)&&port t (x.b,x.pb))&&t.hs.all (fun h=>port t (h.at_,h.port)))=((places t).all (plOk t)&&decide (places t).Nodup):=by
  have e:(t.ls.all (fun x=>port t (x.a,x.pa)&&port t (x.b,x.pb))&&t.hs.all (fun h=>port t (h.at_,h.port)))=(places t).all (port t):=by
    unfold places
    rw [List.all_append,List.all_map]
    congr 1
    generalize port t=q
    induction t.ls with
    | nil=>rfl
    | cons x l ih =>
      rw [List.all_cons,List.flatMap_cons,List.all_append,ih]
      congr 1
      simp [lkP]
  rw [e]
  have hn:(places t).Nodup↔∀ q∈places t,cnt t q=1:=by
    unfold cnt
    rw [List.nodup_iff_count]
    constructor
    · intro h q hq
      have h1:=h q
      have h2:=List.count_pos_iff.2 hq
      omega
    · intro h q
      by_cases hq:q∈places t
      · rw [h q hq];exact Nat.le_refl _
      · rw [List.count_eq_zero.2 hq];omega
  rw [Bool.eq_iff_iff]
  simp only [List.all_eq_true,Bool.and_eq_true,decide_eq_true_eq,hn,port]
  exact ⟨fun h=>⟨fun q hq=>(h q hq).1,fun q hq=>(h q hq).2⟩,fun h q hq=>⟨h.1 q hq,h.2 q hq⟩⟩
end Tp
end Go.Proofs.Ytijkmhmgigaieaa
