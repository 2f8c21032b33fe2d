import Derived.Test.YtaojbkphcnailaaDoorJ1
import Derived.Test.YtaojbkphcnailaaDoorJ7
import Derived.Test.YtaojbkphcnailaaDoorJ8
namespace Go.Proofs.YtaojbkphcnailaaDoor
open Go.Sx
set_option maxRecDepth 20000
set_option linter.unusedVariables false
namespace Po
theorem right_fits {p:Pd.T} (h:Pd.right p=true):Pd.fits p=true:=by
  unfold Pd.right at h
  simp only [Bool.and_eq_true,decide_eq_true_eq] at h
  exact h.1
end Po
end Go.Proofs.YtaojbkphcnailaaDoor
namespace Go.Proofs.YtaojbkphcnailaaDoor
open Go.Sx
set_option maxRecDepth 20000
set_option linter.unusedSimpArgs false
set_option linter.unusedVariables false
set_option maxHeartbeats 2000000
set_option linter.unusedVariables false
namespace Po
inductive R (F:Heap):T→List Value→Prop where
  | mk (k:Int) (p:Pd.T) (f v:Int) (l:List T) (pA:Option Addr) (pcap:Nat) (hp:Pd.Row F (.slice pA p.l.length pcap) p.l) (A:Option Addr) (cap:Nat) (g:Nat→List Value) (hs:SlOk (.slice A l.length cap) l.length) (h1:∀ (i:Nat) (x:T),l[i]?=some x→R F x (g i))
      (h2:∀ i,i<l.length→(g i).length=8∧CellsF F (addrOf (.slice A l.length cap)) (i*8) (g i)) :
      R F (.mk k p f v l) [.int .i64 k,.int .i64 p.k,.int .i64 p.f,.int .i64 p.v,.slice pA p.l.length pcap,.int .i64 f,.int .i64 v,.slice A l.length cap]
abbrev Row (F:Heap) (v:Value) (l:List T):Prop:=RowF F 8 (R F) v l
structure At (F:Heap) (x:T) (pu u:Value):Prop where
  p:Pd.Row F pu x.p.l
  l:Row F u x.l
def cs (x:T) (pu u:Value):List AV:=[.int .i64 x.k,.int .i64 x.p.k,.int .i64 x.p.f,.int .i64 x.p.v,.hs pu x.p.l.length,.int .i64 x.f,.int .i64 x.v,.hs u x.l.length]
theorem R.inv {F:Heap} {x:T} {us:List Value} (h:R F x us):∃ pA pcap A cap,At F x (.slice pA x.p.l.length pcap) (.slice A x.l.length cap) ∧
    us=[.int .i64 x.k,.int .i64 x.p.k,.int .i64 x.p.f,.int .i64 x.p.v,.slice pA x.p.l.length pcap,.int .i64 x.f,.int .i64 x.v,.slice A x.l.length cap]:=by
  cases h with
  | mk k p f v l pA pcap hp A cap g hs h1 h2=>exact ⟨pA,pcap,A,cap,⟨hp,⟨hs,fun i x hx=>⟨g i,h1 i x hx,(h2 i (List.getElem?_eq_some_iff.1 hx).1).1,(h2 i (List.getElem?_eq_some_iff.1 hx).1).2⟩⟩⟩,rfl⟩
theorem R.of {F:Heap} {x:T} {pA A:Option Addr} {pcap cap:Nat} (h:At F x (.slice pA x.p.l.length pcap) (.slice A x.l.length cap)) :
    R F x [.int .i64 x.k,.int .i64 x.p.k,.int .i64 x.p.f,.int .i64 x.p.v,.slice pA x.p.l.length pcap,.int .i64 x.f,.int .i64 x.v,.slice A x.l.length cap]:=by
  obtain ⟨k,p,f,v,l⟩:=x
  obtain ⟨hp,h⟩:=h
  have h:Row F (.slice A l.length cap) l:=h
  have hg:∀ i:Nat,∃ g:List Value,∀ x,l[i]?=some x→R F x g∧g.length=8∧CellsF F (addrOf (.slice A l.length cap)) (i*8) g:=fun i=>by
    cases hx:l[i]? with
    | none=>exact ⟨[],fun x e=>by cases e⟩
    | some x =>
      obtain ⟨g,h1,h2,h3⟩:=h.at_ i x hx
      exact ⟨g,fun y e=>by cases e;exact ⟨h1,h2,h3⟩⟩
  refine R.mk k p f v l pA pcap hp A cap (fun i=>Classical.choose (hg i)) h.ok (fun i x hx=>(Classical.choose_spec (hg i) x hx).1) fun i hi=>?_
  have:=Classical.choose_spec (hg i) l[i] (List.getElem?_eq_getElem hi)
  exact ⟨this.2.1,this.2.2⟩
theorem R.mono {F G:Heap} (h:F.le G) {p:T} {us:List Value} (hp:R F p us):R G p us:=by
  induction hp with
  | mk k p f v l pA pcap hp A cap g hs _ h2 ih=>exact R.mk k p f v l pA pcap (Pd.Row.mono h hp) A cap g hs ih fun i hi=>⟨(h2 i hi).1,(h2 i hi).2.mono h⟩
theorem Row.mono {F G:Heap} (h:F.le G) {v:Value} {l:List T} (hv:Row F v l):Row G v l:=RowF.mono h (fun _ _ hp=>R.mono h hp) hv
theorem At.mono {F G:Heap} (h:F.le G) {x:T} {pu u:Value} (hx:At F x pu u):At G x pu u:=⟨Pd.Row.mono h hx.p,Row.mono h hx.l⟩
structure Cell (F:Heap) (v:Value) (i:Nat) (x:T) (pA:Option Addr) (pcap:Nat) (A:Option Addr) (cap:Nat):Prop where
  c0:F.c ((addrOf v).add (i*8)) (.int .i64 x.k)
  c1:F.c ((addrOf v).add (i*8+1)) (.int .i64 x.p.k)
  c2:F.c ((addrOf v).add (i*8+2)) (.int .i64 x.p.f)
  c3:F.c ((addrOf v).add (i*8+3)) (.int .i64 x.p.v)
  c4:F.c ((addrOf v).add (i*8+4)) (.slice pA x.p.l.length pcap)
  c5:F.c ((addrOf v).add (i*8+5)) (.int .i64 x.f)
  c6:F.c ((addrOf v).add (i*8+6)) (.int .i64 x.v)
  c7:F.c ((addrOf v).add (i*8+7)) (.slice A x.l.length cap)
theorem Row.get {F:Heap} {v:Value} {l:List T} (h:Row F v l) {i:Nat} {x:T} (hx:l[i]?=some x):∃ pA pcap A cap,At F x (.slice pA x.p.l.length pcap) (.slice A x.l.length cap)∧Cell F v i x pA pcap A cap:=by
  obtain ⟨us,h1,_,h2⟩:=h.at_ i x hx
  obtain ⟨pA,pcap,A,cap,h3,rfl⟩:=h1.inv
  simp only [CellsF,Nat.add_assoc,Nat.reduceAdd] at h2
  obtain ⟨c0,c1,c2,c3,c4,c5,c6,c7,_⟩:=h2
  exact ⟨pA,pcap,A,cap,h3,c0,c1,c2,c3,c4,c5,c6,c7⟩
end Po
theorem po_cs (k:Int) (p:Pd.T) (f v:Int) (l:List Po.T) (pu u:Value):Po.cs (.mk k p f v l) pu u=[.int .i64 k,.int .i64 p.k,.int .i64 p.f,.int .i64 p.v,.hs pu p.l.length,.int .i64 f,.int .i64 v,.hs u l.length]:=rfl
section
variable (F:Heap)
end
end Go.Proofs.YtaojbkphcnailaaDoor
