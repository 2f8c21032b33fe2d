import Derived.Test.YtijkmhmgigaieaaTc1p
namespace Go.Proofs.Ytijkmhmgigaieaa
namespace Au
open Tc (E)
structure G where
  u:Int
  f:Int
  t:Int
  deriving DecidableEq
def ends (u:Int) (e:E):Bool:=decide (e.u=u)&&(decide (e.kind=9)||decide (e.kind=10))
def big:Int:=1125899906842624
def endOf (l:List E) (u y:Int):Int:=match l.find? (ends u) with
  | none=>big
  | some e=>if e.kind=9 then y else e.real
def gAt (l:List E) (k:Nat):List G:=match l[k]? with
  | none=>[]
  | some e=>if e.kind=8 then [⟨e.u,e.x,endOf (l.drop (k+1)) e.u e.y⟩] else []
def gTo (l:List E) (n:Nat):List G:=(List.range n).flatMap (gAt l)
def guards (l:List E):List G:=gTo l l.length
theorem gTo_next (l:List E) (n:Nat):gTo l (n+1)=gTo l n++gAt l n:=by unfold gTo;rw [List.range_succ,List.flatMap_append];simp
theorem gAt_len (l:List E) (k:Nat):(gAt l k).length≤1:=by
  unfold gAt
  split
  · exact Nat.zero_le _
  · split<;>simp
theorem gTo_len (l:List E):∀ n,(gTo l n).length≤n
  | 0=>Nat.le_refl _
  | n+1=>by
    rw [gTo_next,List.length_append]
    have:=gTo_len l n
    have:=gAt_len l n
    omega
def inG (at_:Int) (g:G):Bool:=decide (g.f≤at_)&&decide (at_≤g.t)
def guarded (l:List E) (at_:Int):Bool:=(guards l).any (inG at_)
def over (at_ u:Int) (g:G):Bool:=decide (g.u=u)&&decide (g.t<at_)
def fstep (gs:List G) (at_:Int) (o:Int) (e:E):Int:=if e.kind=9∧gs.any (over at_ e.u)=true then e.x else o
def inForce (l:List E) (at_:Int):Int:=l.foldl (fstep (guards l) at_) 0
def idx {α:Type} (p:α→Bool) (l:List α):Int:=match l.findIdx? p with
  | none=>-1
  | some k=>k
theorem idx_some {α:Type} {p:α→Bool} {l:List α} {i:Nat} {x:α} (hx:l[i]?=some x) (hp:p x=true) (hno:∀ j y,j<i→l[j]?=some y→p y=false):idx p l=i:=by
  obtain ⟨hi,rfl⟩:=List.getElem?_eq_some_iff.1 hx
  have:l.findIdx? p=some i:=List.findIdx?_eq_some_iff_getElem.2 ⟨hi,hp,fun j hj=>by
    have:=hno j l[j] hj (List.getElem?_eq_getElem (by omega))
    simp [this]⟩
  unfold idx
  rw [this]
theorem idx_none {α:Type} {p:α→Bool} {l:List α} (hno:∀ x∈l,p x=false):idx p l = -1:=by
  have:l.findIdx? p=none:=List.findIdx?_eq_none_iff.2 hno
  unfold idx
  rw [this]
theorem idx_any {α:Type} (p:α→Bool) (l:List α):decide (idx p l≥0)=l.any p:=by
  unfold idx
  cases h:l.findIdx? p with
  | none =>
    have h1:=List.findIdx?_eq_none_iff.1 h
    have:l.any p=false:=by rw [List.any_eq_false];intro x hx;simp [h1 x hx]
    rw [this]
    decide
  | some k =>
    obtain ⟨hk,h1,_⟩:=List.findIdx?_eq_some_iff_getElem.1 h
    have:l.any p=true:=List.any_eq_true.2 ⟨l[k],List.getElem_mem _,h1⟩
    rw [this]
    simp
theorem idx_find {α:Type} (p:α→Bool) (l:List α):(idx p l<0∧l.find? p=none)∨∃ k x,idx p l=(k:Nat)∧l[k]?=some x∧l.find? p=some x:=by
  unfold idx
  cases h:l.findIdx? p with
  | none =>
    left
    refine ⟨by decide,?_⟩
    rw [List.find?_eq_none]
    intro x hx
    simp [List.findIdx?_eq_none_iff.1 h x hx]
  | some k =>
    right
    obtain ⟨hk,h1,h2⟩:=List.findIdx?_eq_some_iff_getElem.1 h
    refine ⟨k,l[k],rfl,List.getElem?_eq_getElem hk,?_⟩
    rw [List.find?_eq_some_iff_getElem]
    exact ⟨h1,k,hk,rfl,fun j hj=>by simpa using h2 j hj⟩
end Au
end Go.Proofs.Ytijkmhmgigaieaa
