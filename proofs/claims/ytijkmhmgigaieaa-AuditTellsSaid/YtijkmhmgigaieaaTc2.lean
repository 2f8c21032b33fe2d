import Derived.Test.YtijkmhmgigaieaaTc1p
import Derived.Test.YtijkmhmgigaieaaSxFam
import Derived.Test.YtijkmhmgigaieaaSxF
import Derived.Test.YtijkmhmgigaieaaProg
namespace Go.Proofs.Ytijkmhmgigaieaa
open Go.Sx
set_option maxRecDepth 20000
set_option maxHeartbeats 4000000
set_option linter.unusedVariables false
namespace Tc
def E.V (e:E):List Value:=[.int .i64 e.kind,.int .i64 e.real,.int .i64 e.u,.int .i64 e.sw,.int .i64 e.x,.int .i64 e.y]
def E.A (e:E):List AV:=[.int .i64 e.kind,.int .i64 e.real,.int .i64 e.u,.int .i64 e.sw,.int .i64 e.x,.int .i64 e.y]
abbrev ERow (F:Heap) (v:Value) (l:List E):Prop:=RowF F 6 (fun e us=>us=e.V) v l
def av (l:List Int):List AV:=l.map fun z=>.int .i64 z
def nv (l:List Nat):List AV:=l.map fun (z:Nat)=>.int .i64 (z:Int)
abbrev IRow (F:Heap) (v:Value) (l:List Int):Prop:=RowF F 1 (fun z us=>us=[.int .i64 z]) v l
theorem av_den (l:List Int):denL (av l)=l.flatMap fun z=>[Value.int .i64 z]:=by
  induction l with
  | nil=>rfl
  | cons z l ih=>unfold av at *;rw [List.map_cons,denL,ih];rfl
theorem av_next (l:List Int) (z:Int):av (l++[z])=av l++[.int .i64 z]:=by unfold av;rw [List.map_append];rfl
theorem nv_len (l:List Nat):(nv l).length=l.length:=by unfold nv;rw [List.length_map]
theorem nv_next (l:List Nat) (z:Nat):nv (l++[z])=nv l++[.int .i64 z]:=by unfold nv;rw [List.map_append];rfl
theorem nv_last (l:List Nat) (z:Nat):(nv (l++[z]))[l.length]?=some (.int .i64 z):=by rw [nv_next,List.getElem?_append_right (by rw [nv_len];exact Nat.le_refl _),nv_len,Nat.sub_self];rfl
def cs (c:C) (v:Value):List AV:=[.int .i64 c.id,.int .i64 c.fr,.int .i64 c.to,.int .i64 c.at_,.hs v c.sws.length,.int .i64 c.end_,.int .i64 c.host,.int .i64 c.last]
def csJ (j:Nat) (c:C) (v:Value):List AV:=[.int .i64 c.id,.int .i64 c.fr,.int .i64 c.to,.int .i64 c.at_,.sl j v c.sws.length,.int .i64 c.end_,.int .i64 c.host,.int .i64 c.last]
def R (F:Heap) (c:C) (us:List Value):Prop:=∃ A cap,IRow F (.slice A c.sws.length cap) c.sws∧us=[.int .i64 c.id,.int .i64 c.fr,.int .i64 c.to,.int .i64 c.at_,.slice A c.sws.length cap,.int .i64 c.end_,.int .i64 c.host,.int .i64 c.last]
theorem irow_mono {F G:Heap} (h:F.le G) {v:Value} {l:List Int} (hv:IRow F v l):IRow G v l:=RowF.mono h (fun _ _ h=>h) hv
theorem erow_mono {F G:Heap} (h:F.le G) {v:Value} {l:List E} (hv:ERow F v l):ERow G v l:=RowF.mono h (fun _ _ h=>h) hv
abbrev Row (F:Heap) (v:Value) (l:List C):Prop:=RowF F 8 (R F) v l
structure Cell (F:Heap) (v:Value) (i:Nat) (x:C) (A:Option Addr) (cap:Nat):Prop where
  c0:F.c ((addrOf v).add (i*8)) (.int .i64 x.id)
  c1:F.c ((addrOf v).add (i*8+1)) (.int .i64 x.fr)
  c2:F.c ((addrOf v).add (i*8+2)) (.int .i64 x.to)
  c3:F.c ((addrOf v).add (i*8+3)) (.int .i64 x.at_)
  c4:F.c ((addrOf v).add (i*8+4)) (.slice A x.sws.length cap)
  c5:F.c ((addrOf v).add (i*8+5)) (.int .i64 x.end_)
  c6:F.c ((addrOf v).add (i*8+6)) (.int .i64 x.host)
  c7:F.c ((addrOf v).add (i*8+7)) (.int .i64 x.last)
theorem Row.get {F:Heap} {v:Value} {l:List C} (h:Row F v l) {i:Nat} {x:C} (hx:l[i]?=some x):∃ A cap,IRow F (.slice A x.sws.length cap) x.sws∧Cell F v i x A cap:=by
  obtain ⟨us,h1,_,h2⟩:=h.at_ i x hx
  obtain ⟨A,cap,h3,rfl⟩:=h1
  simp only [CellsF,Nat.add_assoc,Nat.reduceAdd] at h2
  obtain ⟨c0,c1,c2,c3,c4,c5,c6,c7,_⟩:=h2
  exact ⟨A,cap,h3,c0,c1,c2,c3,c4,c5,c6,c7⟩
structure ECell (F:Heap) (v:Value) (i:Nat) (x:E):Prop where
  c0:F.c ((addrOf v).add (i*6)) (.int .i64 x.kind)
  c1:F.c ((addrOf v).add (i*6+1)) (.int .i64 x.real)
  c2:F.c ((addrOf v).add (i*6+2)) (.int .i64 x.u)
  c3:F.c ((addrOf v).add (i*6+3)) (.int .i64 x.sw)
  c4:F.c ((addrOf v).add (i*6+4)) (.int .i64 x.x)
  c5:F.c ((addrOf v).add (i*6+5)) (.int .i64 x.y)
theorem ERow.get {F:Heap} {v:Value} {l:List E} (h:ERow F v l) {i:Nat} {x:E} (hx:l[i]?=some x):ECell F v i x:=by
  obtain ⟨us,rfl,_,h2⟩:=h.at_ i x hx
  simp only [E.V,CellsF,Nat.add_assoc,Nat.reduceAdd] at h2
  obtain ⟨c0,c1,c2,c3,c4,c5,_⟩:=h2
  exact ⟨c0,c1,c2,c3,c4,c5⟩
theorem IRow.get {F:Heap} {v:Value} {l:List Int} (h:IRow F v l) {i:Nat} {x:Int} (hx:l[i]?=some x):F.c ((addrOf v).add i) (.int .i64 x):=by
  obtain ⟨us,rfl,_,h2⟩:=h.at_ i x hx
  simp only [CellsF,Nat.mul_one] at h2
  exact h2.1
structure L where
  x:C
  v:Value
def psC (ps:List L):List AV:=ps.flatMap fun p=>cs p.x p.v
def psV (p:L):List Value:=denL (cs p.x p.v)
theorem psC_den:∀ ps,denL (psC ps)=ps.flatMap psV
  | []=>rfl
  | p::ps=>by
    have:=psC_den ps
    unfold psC at *
    rw [List.flatMap_cons,List.flatMap_cons,denL_append,this]
    rfl
theorem psC_len (ps:List L):(psC ps).length=ps.length*8:=by
  induction ps with
  | nil=>rfl
  | cons p ps ih =>
    unfold psC at *
    rw [List.flatMap_cons,List.length_append,ih,List.length_cons]
    show 8+_=_
    omega
theorem psC_append (a b:List L):psC (a++b)=psC a++psC b:=by unfold psC;rw [List.flatMap_append]
theorem psC_next (ps:List L) (p:L):psC (ps++[p])=psC ps++cs p.x p.v:=by
  rw [psC_append]
  unfold psC
  simp
theorem psC_mid (A B:List L) (p:L):psC (A++p::B)=psC A++(cs p.x p.v++psC B):=by
  rw [psC_append]
  unfold psC
  simp
theorem ones_psC (l:List L):Go.Sx.ones (psC l)=true:=by
  induction l with
  | nil=>rfl
  | cons x l ih =>
    unfold psC at *
    rw [List.flatMap_cons]
    simpa [cs,Go.Sx.ones] using ih
theorem row_of {G:Heap} {u:Value} {ps:List L} (h:RowF G 8 (fun p vs=>vs=psV p) u ps) (hall:∀ p∈ps,IRow G p.v p.x.sws):Row G u (ps.map (·.x)):=by
  refine ⟨by rw [List.length_map];exact h.ok,fun k x hx=>?_⟩
  rw [List.getElem?_map] at hx
  cases hp:ps[k]? with
  | none=>rw [hp] at hx;cases hx
  | some p =>
    rw [hp] at hx
    simp only [Option.map_some,Option.some.injEq] at hx
    subst hx
    obtain ⟨vs,h1,h2,h3⟩:=h.at_ k p hp
    have hr:=hall p (List.mem_of_getElem? hp)
    refine ⟨vs,?_,h2,h3⟩
    obtain ⟨A,cap,hv,hle,hz⟩:=hr.ok
    rw [h1]
    obtain ⟨x,w⟩:=p
    dsimp only at hv hr ⊢
    subst hv
    exact ⟨A,cap,hr,rfl⟩
theorem split_at {ps:List L} {k:Nat} {p:L} (h:ps[k]?=some p):∃ A B,ps=A++p::B∧A.length=k:=by
  obtain ⟨hk,rfl⟩:=List.getElem?_eq_some_iff.1 h
  refine ⟨ps.take k,ps.drop (k+1),?_,by rw [List.length_take];omega⟩
  rw [← List.drop_eq_getElem_cons hk,List.take_append_drop]
def own (t:TypeId) (p:L):OwnR:=⟨p.v,av p.x.sws,t,1,p.x.sws.length⟩
def swB (t:TypeId) (ps:List L):List Blk:=ps.map fun p=>(own t p).blk
theorem swB_wr (t:TypeId) (ps:List L):∀ k∈swB t ps,k.wr=true:=fun k hk=>by
  obtain ⟨p,_,rfl⟩:=List.mem_map.1 hk
  rfl
theorem swB_mid (t:TypeId) (A B:List L) (p:L):(swB t (A++p::B)).Perm ((own t p).blk::swB t (A++B)):=by
  unfold swB
  rw [List.map_append,List.map_append,List.map_cons]
  exact List.perm_middle
theorem swB_next (t:TypeId) (A:List L) (p:L):(swB t (A++[p])).Perm ((own t p).blk::swB t A):=by
  have:=swB_mid t A [] p
  rwa [List.append_nil] at this
abbrev Lays (F:Heap) (l:List C) (r:AV) (m:List Blk):Prop:=∃ F' v,F.le F'∧Row F' v l∧r = .hs v l.length∧m=[hpB F']
theorem rows_know {f:FuncId} {args:List AV} {F:Heap} {t ti:TypeId} {m:List Blk} {l:List C} (h:NCall Try.prog f args m fun r m'=>∃ v,∃ ps:List L,ps.map (·.x)=l∧r.den=slOf v∧MemFits m' [hpB F,⟨addrOf v,psC ps,.row v t 8 ps.length⟩,manyB (swB ti ps)]) :
    NCall Try.prog f args m fun r m'=>Lays F l r m':=by
  refine Go.Sx.NCall.know h fun r m' ⟨u,ps,hmap,hr,hm⟩ ⟨w,hw⟩=>?_
  have h0:=(hm w hw).1
  have hok:=(h0.row (List.mem_cons_of_mem _ (List.mem_cons_self ..))).1
  have e1:(hpB F::⟨addrOf u,psC ps,.row u t 8 ps.length⟩::manyB (swB ti ps)::[]).Perm (manyB (swB ti ps)::hpB F::⟨addrOf u,psC ps,.row u t 8 ps.length⟩::[]):=by
    refine ((List.Perm.swap ..).cons _).trans ?_
    exact List.Perm.swap ..
  have e2:(swB ti ps++(hpB F::⟨addrOf u,psC ps,.row u t 8 ps.length⟩::[])).Perm (hpB F::((ps.map (own ti)).map OwnR.blk++[⟨addrOf u,psC ps,.row u t 8 ps.length⟩])):=by
    rw [List.map_map]
    exact List.perm_middle
  have f1:=(MemFits.perm e1).trans ((MemFits.unpack (swB ti ps) _ (swB_wr ti ps)).trans (MemFits.perm e2))
  have h1:=(f1 w h0).1
  have f2:MemFits _ _:=MemFits.frzL (m:=[⟨addrOf u,psC ps,.row u t 8 ps.length⟩]) (ps.map (own ti)) (F:=F)
  have hsl:∀ p∈ps,SlOk p.v p.x.sws.length:=fun p hp=>by
    have hmem:(own ti p).blk∈hpB F::((ps.map (own ti)).map OwnR.blk++[⟨addrOf u,psC ps,.row u t 8 ps.length⟩]):=List.mem_cons_of_mem _ (List.mem_append_left _ (List.mem_map.2 ⟨_,List.mem_map.2 ⟨p,hp,rfl⟩,rfl⟩))
    exact (h1.row hmem).1
  have hsws:∀ p∈ps,IRow (addLs F (ps.map (own ti))) p.v p.x.sws:=fun p hp=>addLs.row (x:=own ti p) (List.mem_map.2 ⟨p,hp,rfl⟩) (hsl p hp) (av_den _) fun _ _=>rfl
  have hrow:=rowF_new (F:=addLs F (ps.map (own ti))) (sz:=8) (enc:=psV) hok (psC_den ps) (fun x _=>rfl)
  refine ⟨.hs u l.length,_,hr.symm,hm.trans (f1.trans (f2.trans (MemFits.freeze (m:=[])))),_,u,addLs.old.trans addF.old,?_,rfl,rfl⟩
  rw [← hmap]
  exact row_of hrow fun p hp=>irow_mono addF.old (hsws p hp)
end Tc
end Go.Proofs.Ytijkmhmgigaieaa
