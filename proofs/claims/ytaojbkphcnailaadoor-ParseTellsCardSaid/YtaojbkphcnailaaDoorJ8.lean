import Derived.Test.YtaojbkphcnailaaDoorJ1
import Derived.Test.YtaojbkphcnailaaDoorJ6
import Derived.Test.YtaojbkphcnailaaDoorProg
namespace Go.Proofs.YtaojbkphcnailaaDoor
open Go.Sx
set_option maxRecDepth 20000
set_option linter.unusedSimpArgs false
set_option linter.unusedVariables false
set_option maxHeartbeats 2000000
set_option linter.unusedVariables false
namespace Pd
inductive R (F:Heap):T→List Value→Prop where
  | mk (k f v:Int) (l:List T) (A:Option Addr) (cap:Nat) (g:Nat→List Value) (hs:SlOk (.slice A l.length cap) l.length) (h1:∀ (i:Nat) (x:T),l[i]?=some x→R F x (g i))
      (h2:∀ i,i<l.length→(g i).length=4∧CellsF F (addrOf (.slice A l.length cap)) (i*4) (g i)):R F (.mk k f v l) [.int .i64 k,.int .i64 f,.int .i64 v,.slice A l.length cap]
abbrev Row (F:Heap) (v:Value) (l:List T):Prop:=RowF F 4 (R F) v l
def cs (p:T) (u:Value):List AV:=[.int .i64 p.k,.int .i64 p.f,.int .i64 p.v,.hs u p.l.length]
theorem R.inv {F:Heap} {p:T} {us:List Value} (h:R F p us):∃ A cap,Row F (.slice A p.l.length cap) p.l∧us=[.int .i64 p.k,.int .i64 p.f,.int .i64 p.v,.slice A p.l.length cap]:=by
  cases h with
  | mk k f v l A cap g hs h1 h2=>exact ⟨A,cap,⟨hs,fun i x hx=>⟨g i,h1 i x hx,(h2 i (List.getElem?_eq_some_iff.1 hx).1).1,(h2 i (List.getElem?_eq_some_iff.1 hx).1).2⟩⟩,rfl⟩
theorem R.of {F:Heap} {p:T} {A:Option Addr} {cap:Nat} (h:Row F (.slice A p.l.length cap) p.l):R F p [.int .i64 p.k,.int .i64 p.f,.int .i64 p.v,.slice A p.l.length cap]:=by
  obtain ⟨k,f,v,l⟩:=p
  have hg:∀ i:Nat,∃ g:List Value,∀ x,l[i]?=some x→R F x g∧g.length=4∧CellsF F (addrOf (.slice A l.length cap)) (i*4) g:=fun i=>by
    cases hx:l[i]? with
    | none=>exact ⟨[],fun x e=>by cases e⟩
    | some x =>
      obtain ⟨g,h1,h2,h3⟩:=h.at_ i x hx
      exact ⟨g,fun y e=>by cases e;exact ⟨h1,h2,h3⟩⟩
  refine R.mk k f v l A cap (fun i=>Classical.choose (hg i)) h.ok (fun i x hx=>(Classical.choose_spec (hg i) x hx).1) fun i hi=>?_
  have:=Classical.choose_spec (hg i) l[i] (List.getElem?_eq_getElem hi)
  exact ⟨this.2.1,this.2.2⟩
theorem R.mono {F G:Heap} (h:F.le G) {p:T} {us:List Value} (hp:R F p us):R G p us:=by
  induction hp with
  | mk k f v l A cap g hs _ h2 ih=>exact R.mk k f v l A cap g hs ih fun i hi=>⟨(h2 i hi).1,(h2 i hi).2.mono h⟩
theorem Row.mono {F G:Heap} (h:F.le G) {v:Value} {l:List T} (hv:Row F v l):Row G v l:=RowF.mono h (fun _ _ hp=>R.mono h hp) hv
theorem Row.get {F:Heap} {v:Value} {l:List T} (h:Row F v l) {i:Nat} {x:T} (hx:l[i]?=some x):∃ A cap,Row F (.slice A x.l.length cap) x.l ∧
    (F.c ((addrOf v).add (i*4)) (.int .i64 x.k)∧F.c ((addrOf v).add (i*4+1)) (.int .i64 x.f)∧F.c ((addrOf v).add (i*4+2)) (.int .i64 x.v)∧F.c ((addrOf v).add (i*4+3)) (.slice A x.l.length cap)):=by
  obtain ⟨us,h1,_,h2⟩:=h.at_ i x hx
  obtain ⟨A,cap,h3,rfl⟩:=h1.inv
  simp only [CellsF,Nat.add_assoc,Nat.reduceAdd] at h2
  obtain ⟨c0,c1,c2,c3,_⟩:=h2
  exact ⟨A,cap,h3,c0,c1,c2,c3⟩
end Pd
section
variable (F:Heap)
end
end Go.Proofs.YtaojbkphcnailaaDoor
namespace Go.Proofs.YtaojbkphcnailaaDoor
open Go.Sx
set_option maxRecDepth 20000
set_option linter.unusedSimpArgs false
set_option linter.unusedVariables false
set_option maxHeartbeats 2000000
set_option linter.unusedVariables false
theorem pd_cs (k f v:Int) (l:List Pd.T) (u:Value):Pd.cs (.mk k f v l) u=[.int .i64 k,.int .i64 f,.int .i64 v,.hs u l.length]:=rfl
section
variable (F:Heap)
end
end Go.Proofs.YtaojbkphcnailaaDoor
