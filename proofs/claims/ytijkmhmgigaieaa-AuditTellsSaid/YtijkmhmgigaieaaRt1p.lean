import Derived.Test.YtijkmhmgigaieaaTp2p
namespace Go.Proofs.Ytijkmhmgigaieaa
namespace Rt
open Tp (T Lk Hs)
def prt (r:List (List Int)) (sw h:Int):Option Int:=if sw<0∨h<0 then none else match r[sw.toNat]? with
  | none=>none
  | some row=>row[h.toNat]?
def pOk (p:Int):Bool:=decide (0≤p)&&decide (p<8)
def rowOk (n:Nat) (row:List Int):Bool:=decide (row.length=n)&&row.all pOk
def right (t:T) (r:List (List Int)):Bool:=Tp.right t&&(decide ((r.length:Int)=t.n)&&r.all (rowOk t.hs.length))
def pk (sw p:Int) (x:Lk):Option (Int × Int):=if sw=x.a∧p=x.pa then some (x.b,x.pb) else if sw=x.b∧p=x.pb then some (x.a,x.pa) else none
def peer (t:T) (sw p:Int):Option (Int × Int):=t.ls.findSome? (pk sw p)
def nxt (t:T) (r:List (List Int)) (sw h:Int):Option Int:=match prt r sw h with
  | none=>none
  | some p=>(peer t sw p).map (·.1)
def come (t:T) (r:List (List Int)) (h at_:Int):Bool:=match t.hs[h.toNat]?,prt r at_ h with
  | some x,some p=>decide (x.at_=at_)&&decide (x.port=p)
  | _,_=>false
def twice (l:List Int):Bool:=match l.getLast? with
  | none=>false
  | some x=>l.dropLast.any fun y=>decide (x=y)
def wk (t:T) (r:List (List Int)) (h:Int):Nat→List Int→List Int × Int
  | 0,_=>([],12)
  | n+1,out=>if twice out=true then ([],12) else match out.getLast? with
    | none=>([],12)
    | some at_=>if come t r h at_=true then (out,0) else match nxt t r at_ h with
      | none=>([],13)
      | some b=>wk t r h n (out++[b])
def walk (t:T) (r:List (List Int)) (sw h:Int):List Int × Int :=
  if prt r sw h=none∨right t r=false then ([],2) else wk t r h 10 [sw]
theorem nodup_len:∀ (n:Nat) (l:List Int),l.Nodup→(∀ y∈l,0≤y∧y<n)→l.length≤n
  | 0,l,_,h=>by
    cases l with
    | nil=>exact Nat.le_refl _
    | cons x l=>have:=h x (List.mem_cons_self ..);omega
  | n+1,l,hn,h=>by
    have ih:=nodup_len n (l.erase (n:Int)) (hn.erase _) fun y hy=>by
      have h1:=(List.Nodup.mem_erase_iff hn).1 hy
      have h2:=h y h1.2
      have h3:=h1.1
      omega
    have h4:l.length≤(l.erase (n:Int)).length+1:=by
      rw [List.length_erase]
      split<;>omega
    omega
theorem twice_iff {l:List Int} {x:Int}:twice (l++[x])=true↔x∈l:=by
  unfold twice
  rw [List.getLast?_concat,List.dropLast_concat]
  simp
theorem right_parts {t:T} {r:List (List Int)} (h:right t r=true):Tp.right t=true∧(r.length:Int)=t.n∧(∀ row∈r,row.length=t.hs.length∧∀ p∈row,0≤p∧p<8):=by
  unfold right at h
  simp only [Bool.and_eq_true,decide_eq_true_eq,List.all_eq_true] at h
  refine ⟨h.1,h.2.1,fun row hrow=>?_⟩
  have:=h.2.2 row hrow
  unfold rowOk at this
  simp only [Bool.and_eq_true,decide_eq_true_eq,List.all_eq_true] at this
  refine ⟨this.1,fun p hp=>?_⟩
  have h2:=this.2 p hp
  unfold pOk at h2
  simpa using h2
theorem topo_parts {t:T} (h:Tp.right t=true):(1≤t.n∧t.n≤8)∧t.ls.length≤24∧t.hs.length≤8∧∀ x∈t.ls,(0≤x.a∧x.a<t.n)∧0≤x.b∧x.b<t.n:=by
  unfold Tp.right Tp.bounds at h
  simp only [Bool.and_eq_true,decide_eq_true_eq,List.all_eq_true] at h
  refine ⟨h.1.1,h.1.2.1,h.1.2.2,fun x hx=>?_⟩
  have h1:=h.2.2.1 (x.a,x.pa) (by unfold Tp.places;exact List.mem_append_left _ (List.mem_flatMap.2 ⟨x,hx,by simp [Tp.lkP]⟩))
  have h2:=h.2.2.1 (x.b,x.pb) (by unfold Tp.places;exact List.mem_append_left _ (List.mem_flatMap.2 ⟨x,hx,by simp [Tp.lkP]⟩))
  unfold Tp.plOk at h1 h2
  simp only [decide_eq_true_eq] at h1 h2
  exact ⟨h1.1,h2.1⟩
theorem peer_in {t:T} (h:Tp.right t=true) {sw p:Int} {q:Int × Int} (hq:peer t sw p=some q):0≤q.1∧q.1<t.n:=by
  obtain ⟨x,hx,h1⟩:=List.exists_of_findSome?_eq_some hq
  obtain ⟨h2,h3⟩:=(topo_parts h).2.2.2 x hx
  unfold pk at h1
  split at h1
  · simp only [Option.some.injEq] at h1
    rw [← h1];exact h3
  · split at h1
    · simp only [Option.some.injEq] at h1
      rw [← h1];exact h2
    · cases h1
theorem nxt_in {t:T} {r:List (List Int)} (h:Tp.right t=true) {sw hh b:Int} (hb:nxt t r sw hh=some b):0≤b∧b<t.n:=by
  unfold nxt at hb
  split at hb
  · cases hb
  · cases hp:peer t sw _ with
    | none=>rw [hp] at hb;cases hb
    | some q =>
      rw [hp] at hb
      simp only [Option.map_some,Option.some.injEq] at hb
      rw [← hb];exact peer_in h hp
theorem prt_some {t:T} {r:List (List Int)} (h:right t r=true) {sw hh:Int} (h1:0≤sw) (h2:sw<t.n) (h3:0≤hh) (h4:hh<t.hs.length):∃ p,prt r sw hh=some p:=by
  obtain ⟨_,hl,hrow⟩:=right_parts h
  unfold prt
  rw [if_neg (by omega)]
  have hs:sw.toNat<r.length:=by omega
  rw [List.getElem?_eq_getElem hs]
  have hr:=(hrow _ (List.getElem_mem hs)).1
  exact ⟨_,List.getElem?_eq_getElem (by omega)⟩
theorem prt_in {r:List (List Int)} {sw hh p:Int} (h:prt r sw hh=some p):∃ row,0≤sw∧0≤hh∧r[sw.toNat]?=some row∧row[hh.toNat]?=some p:=by
  unfold prt at h
  split at h
  · cases h
  · rename_i hn
    split at h
    · cases h
    · rename_i row hrow
      exact ⟨row,by omega,by omega,hrow,h⟩
end Rt
end Go.Proofs.Ytijkmhmgigaieaa
