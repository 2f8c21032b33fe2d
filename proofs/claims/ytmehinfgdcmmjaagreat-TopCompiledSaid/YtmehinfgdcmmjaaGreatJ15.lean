import Derived.Test.YtmehinfgdcmmjaaGreatJ14
import Derived.Test.YtmehinfgdcmmjaaGreatJ3
import Derived.Test.YtmehinfgdcmmjaaGreatJ8
import Derived.Test.YtmehinfgdcmmjaaGreatJ4
namespace Go.Proofs.YtmehinfgdcmmjaaGreat
open Go.Sx
set_option maxRecDepth 20000
set_option linter.unusedSimpArgs false
set_option linter.unusedVariables false
set_option maxHeartbeats 4000000
namespace Po
abbrev SRow (F:Heap) (v:Value) (l:List S):Prop:=aH F 5 (fun x vs=>vs=x.vs) v l
end Po
theorem ky (F:Heap) (b:Nat) (N:List Po.S) (hn:N.length≤1000000) (cap:Addr) (hc:F.c cap (.map (some b))) (hb:F.o b (aS (Po.sM N))) :
    NCall Tryz.prog 195 [.fn 196 [] [.hp cap 0]] [hpB F] fun r m=>∃ (u:Value) (L:List Po.S),L.Perm N∧r = .sl 1 u L.length∧m=[hpB F,⟨addrOf u,Po.savs L,.row u 48 5 L.length⟩]:=by
  have ca:=NCall.fits (iQ F b N hn cap hc hb) (K':=fun r m=>∃ (u:Value) (L:List Po.S),L.Perm N∧r = .sl 1 u L.length∧m=[hpB F,⟨addrOf u,Po.savs L,.row u 48 5 L.length⟩]) fun r m ⟨u,L,h1,h2,h3⟩=>⟨.sl 1 u L.length,_,h2.symm,h3,u,L,h1,rfl,rfl⟩
  refine aA Tryz.func195 rfl (by decide) ?_
  repeat' first|(intro K hK;(with_reducible refine gC ?_);(refine cN [0] ca ?_;rintro _ _ ⟨u,L,hp,rfl,rfl⟩;refine cR ?_))|(refine sxZ ?_;try clear hK K)|refine sxW ?_ ?_<;>intro _|(intro K hK _;conv=>whnf)
  all_goals exact ⟨u,L,hp,rfl,rfl⟩
theorem gT (F:Heap) (b:Nat) (N R:List Po.S) (hn:N.length≤1000000) (hnd:N.Nodup) (hR:Po.Rising R) (hmem:∀ t,t∈N↔t∈R) (cap:Addr) (hc:F.c cap (.map (some b))) (hb:F.o b (aS (Po.sM N))) :
    NCall Tryz.prog 178 [.fn 196 [] [.hp cap 0],.fn 180 [] []] [hpB F] fun r m=>∃ u:Value,r = .sl 1 u R.length∧m=[hpB F,⟨addrOf u,Po.savs R,.row u 48 5 R.length⟩]:=by
  have ca:=ky F b N hn cap hc hb
  refine aA Tryz.func178 rfl (by decide) ?_
  repeat' first|(intro K hK;(with_reducible refine gC ?_);first|(refine cN [0] ca ?_;rintro _ _ ⟨u,L,hp,rfl,rfl⟩;refine cR ?_)|(refine cN [1] (qF u 48 L (by have:=hp.length_eq;omega)) ?_;rintro _ _ ⟨rfl,L2,hp2,hs2,rfl⟩;refine cR ?_))|(refine sxZ ?_;try clear hK K)|refine sxW ?_ ?_<;>intro _|(intro K hK _;conv=>whnf)
  all_goals
    have e:=Po.sorted_eq (hp2.trans hp) hnd hs2 hR hmem
    subst e
    exact ⟨u,by rw [hp2.length_eq],by rw [hp2.length_eq]⟩
namespace Tr
theorem srow_mono {F G:Heap} (h:F.le G) {v:Value} {l:List Po.S} (hv:Po.SRow F v l):Po.SRow G v l:=aH.mono h (fun _ _ h=>h) hv
def cs (c:C) (v:Value):List AV:=[.int .i64 c.s.port,.int .i64 c.s.p0,.int .i64 c.s.p1,.int .i64 c.s.p2,.int .i64 c.s.p3,.hs v c.out.length]
def R (F:Heap) (c:C) (us:List Value):Prop:=∃ A cap,Po.SRow F (.slice A c.out.length cap) c.out∧us=[.int .i64 c.s.port,.int .i64 c.s.p0,.int .i64 c.s.p1,.int .i64 c.s.p2,.int .i64 c.s.p3,.slice A c.out.length cap]
theorem R.mono {F G:Heap} (h:F.le G) {c:C} {us:List Value} (hc:R F c us):R G c us:=by
  obtain ⟨A,cap,h1,h2⟩:=hc
  exact ⟨A,cap,srow_mono h h1,h2⟩
abbrev Row (F:Heap) (v:Value) (l:List C):Prop:=aH F 6 (R F) v l
theorem Row.mono {F G:Heap} (h:F.le G) {v:Value} {l:List C} (hv:Row F v l):Row G v l:=aH.mono h (fun _ _ hp=>R.mono h hp) hv
structure Cell (F:Heap) (v:Value) (i:Nat) (x:C) (A:Option Addr) (cap:Nat):Prop where
  c0:F.c ((addrOf v).add (i*6)) (.int .i64 x.s.port)
  c1:F.c ((addrOf v).add (i*6+1)) (.int .i64 x.s.p0)
  c2:F.c ((addrOf v).add (i*6+2)) (.int .i64 x.s.p1)
  c3:F.c ((addrOf v).add (i*6+3)) (.int .i64 x.s.p2)
  c4:F.c ((addrOf v).add (i*6+4)) (.int .i64 x.s.p3)
  c5:F.c ((addrOf v).add (i*6+5)) (.slice A x.out.length cap)
theorem Row.get {F:Heap} {v:Value} {l:List C} (h:Row F v l) {i:Nat} {x:C} (hx:l[i]?=some x):∃ A cap,Po.SRow F (.slice A x.out.length cap) x.out∧Cell F v i x A cap:=by
  obtain ⟨us,h1,_,h2⟩:=h.at_ i x hx
  obtain ⟨A,cap,h3,rfl⟩:=h1
  simp only [CellsF,Nat.add_assoc,Nat.reduceAdd] at h2
  obtain ⟨c0,c1,c2,c3,c4,c5,_⟩:=h2
  exact ⟨A,cap,h3,c0,c1,c2,c3,c4,c5⟩
structure L where
  x:C
  v:Value
def psC (ps:List L):List AV:=ps.flatMap fun p=>cs p.x p.v
def psV (p:L):List Value:=denL (cs p.x p.v)
theorem psC_den:∀ ps,denL (psC ps)=ps.flatMap psV
  | []=>rfl
  | p::ps=>by
    have:=psC_den ps
    unfold psC at *
    rw [List.flatMap_cons,List.flatMap_cons,aQ,this]
    rfl
theorem psC_len (ps:List L):(psC ps).length=ps.length*6:=by
  induction ps with
  | nil=>rfl
  | cons p ps ih =>
    unfold psC at *
    rw [List.flatMap_cons,List.length_append,ih,List.length_cons]
    show 6+_=_
    omega
theorem psC_append (a b:List L):psC (a++b)=psC a++psC b:=by unfold psC;rw [List.flatMap_append]
theorem ones_psC (l:List L):Go.Sx.ones (psC l)=true:=by
  induction l with
  | nil=>rfl
  | cons x l ih =>
    unfold psC at *
    rw [List.flatMap_cons]
    simpa [cs,Go.Sx.ones] using ih
theorem row_of {G:Heap} {u:Value} {ps:List L} (h:aH G 6 (fun p vs=>vs=psV p) u ps) (hall:∀ p∈ps,Po.SRow G p.v p.x.out):Row G u (ps.map (·.x)):=by
  refine ⟨by rw [List.length_map];exact h.ok,fun k x hx=>?_⟩
  rw [List.getElem?_map] at hx
  cases hp:ps[k]? with
  | none=>rw [hp] at hx;cases hx
  | some p =>
    rw [hp] at hx
    simp only [Option.map_some,Option.some.injEq] at hx
    subst hx
    obtain ⟨vs,h1,h2,h3⟩:=h.at_ k p hp
    have hr:=hall p (List.mem_of_getElem? hp)
    refine ⟨vs,?_,h2,h3⟩
    obtain ⟨A,cap,hv,hle,hz⟩:=hr.ok
    rw [h1]
    obtain ⟨x,w⟩:=p
    dsimp only at hv hr ⊢
    subst hv
    exact ⟨A,cap,hr,rfl⟩
theorem Row.reads {F:Heap} {v:Value} {l:List C} (h:Row F v l):∃ ps:List L,ps.map (·.x)=l∧(∀ p∈ps,Po.SRow F p.v p.x.out)∧(psC ps).length=l.length*6∧CellsF F (addrOf v) 0 (denL (psC ps)):=by
  have hg:∀ i:Nat,∃ w:Value,∀ x,l[i]?=some x→Po.SRow F w x.out∧CellsF F (addrOf v) (i*6) (psV ⟨x,w⟩):=fun i=>by
    cases hx:l[i]? with
    | none=>exact ⟨.slice none 0 0,fun x e=>by cases e⟩
    | some x =>
      obtain ⟨us,⟨A,cap,h3,rfl⟩,_,h2⟩:=h.at_ i x hx
      exact ⟨.slice A x.out.length cap,fun y e=>by cases e;exact ⟨h3,h2⟩⟩
  let w:=fun i=>Classical.choose (hg i)
  have hw:=fun i=>Classical.choose_spec (hg i)
  let ps:List L:=(List.range l.length).map fun i=>⟨l.getD i ⟨start,[]⟩,w i⟩
  have hlen:ps.length=l.length:=by simp [ps]
  have hat:∀ i (hi:i<l.length),ps[i]?=some ⟨l[i],w i⟩:=fun i hi=>by
    simp [ps,List.getElem?_map,List.getElem?_range hi,List.getD_eq_getElem?_getD,List.getElem?_eq_getElem hi]
  refine ⟨ps,?_,fun p hp=>?_,by rw [psC_len,hlen],?_⟩
  · apply List.ext_getElem?
    intro i
    rw [List.getElem?_map]
    by_cases hi:i<l.length
    · rw [hat i hi,List.getElem?_eq_getElem hi];rfl
    · rw [List.getElem?_eq_none (by omega),List.getElem?_eq_none (by omega)];rfl
  · obtain ⟨i,hi,e⟩:=List.mem_iff_getElem.1 hp
    rw [hlen] at hi
    have e2:=hat i hi
    rw [List.getElem?_eq_getElem (by omega),e] at e2
    injection e2 with e2
    subst e2
    exact (hw i l[i] (List.getElem?_eq_getElem hi)).1
  · rw [psC_den]
    have hr:aH F 6 (fun p us=>us=psV p) v ps:=⟨by rw [hlen];exact h.ok,fun i p hp=>by
      have hi:i<l.length:=by rw [← hlen];exact (List.getElem?_eq_some_iff.1 hp).1
      rw [hat i hi] at hp
      injection hp with hp
      subst hp
      exact ⟨_,rfl,rfl,(hw i l[i] (List.getElem?_eq_getElem hi)).2⟩⟩
    exact hr.all.1
abbrev Lays (F:Heap) (l:List C) (r:AV) (m:List Blk):Prop:=∃ F' v,F.le F'∧Row F' v l∧r = .hs v l.length∧m=[hpB F']
theorem rows_know {f:FuncId} {args:List AV} {F:Heap} {t:TypeId} {m:List Blk} {l:List C} (h:NCall Tryz.prog f args m fun r m'=>∃ G v,∃ ps:List L,F.le G∧ps.map (·.x)=l∧(∀ p∈ps,Po.SRow G p.v p.x.out)∧r.den=aw v∧MemFits m' [hpB G,⟨addrOf v,psC ps,.row v t 6 ps.length⟩]) :
    NCall Tryz.prog f args m fun r m'=>Lays F l r m':=by
  refine Go.Sx.NCall.know h fun r m' ⟨G,u,ps,hle,hmap,hall,hr,hm⟩ ⟨w,hw⟩=>?_
  have hok:=((hm w hw).1.row (List.mem_cons_of_mem _ (List.mem_cons_self ..))).1
  have hrow:=aJ (F:=G) (sz:=6) (enc:=psV) hok (psC_den ps) (fun x _=>rfl)
  refine ⟨.hs u l.length,_,hr.symm,hm.trans (MemFits.freeze (m:=[])),_,u,hle.trans addF.old,?_,rfl,rfl⟩
  rw [← hmap]
  exact row_of hrow fun p hp=>srow_mono addF.old (hall p hp)
abbrev Lay1 (F:Heap) (c:C) (r:AV) (m:List Blk):Prop:=∃ F' v,F.le F'∧Po.SRow F' v c.out∧r = .agg (cs c v)∧m=[hpB F']
theorem case_know {f:FuncId} {args:List AV} {F:Heap} {t:TypeId} {m:List Blk} {c:C} (h:NCall Tryz.prog f args m fun r m'=>∃ G v,F.le G∧r.den=(AV.agg (cs c v)).den∧MemFits m' [hpB G,⟨addrOf v,Po.savs c.out,.row v t 5 c.out.length⟩]) :
    NCall Tryz.prog f args m fun r m'=>Lay1 F c r m':=by
  refine Go.Sx.NCall.know h fun r m' ⟨G,u,hle,hr,hm⟩ ⟨w,hw⟩=>?_
  have hok:=((hm w hw).1.row (List.mem_cons_of_mem _ (List.mem_cons_self ..))).1
  have hrow:=aJ (F:=G) (sz:=5) (enc:=Po.S.vs) hok (Po.savs_den _) (fun x _=>rfl)
  exact ⟨.agg (cs c u),_,hr.symm,hm.trans (MemFits.freeze (m:=[])),_,u,hle.trans addF.old,hrow,rfl,rfl⟩
end Tr
theorem oI (s:Po.S) (f v:Int) (hf:Tr.ok f):NCall Tryz.prog 113 [.agg [.int .i64 s.port,.int .i64 s.p0,.int .i64 s.p1,.int .i64 s.p2,.int .i64 s.p3,.raw (.slice none 0 0)],.int .i64 f,.int .i64 v] [] fun r _=>r = .agg [.int .i64 (Tr.withK f v s).port,.int .i64 (Tr.withK f v s).p0,.int .i64 (Tr.withK f v s).p1,.int .i64 (Tr.withK f v s).p2,.int .i64 (Tr.withK f v s).p3,.raw (.slice none 0 0)]:=by
  refine aA Tryz.func113 rfl (by decide) ?_
  obtain ⟨s0,s1,s2,s3,s4⟩:=s
  rcases Tr.ok5 hf with rfl | rfl | rfl | rfl | rfl
  all_goals
    simp only [Tr.withK]
    repeat' first|(refine sxZ ?_;try clear hK K)|refine sxW ?_ ?_<;>intro _|(intro K hK _;conv=>whnf)
    all_goals rfl
theorem jn (s:Po.S) (f v:Int) (w:Value) (n:Nat) (hf:Tr.ok f):NCall Tryz.prog 113 [.agg [.int .i64 s.port,.int .i64 s.p0,.int .i64 s.p1,.int .i64 s.p2,.int .i64 s.p3,.hs w n],.int .i64 f,.int .i64 v] [] fun r _=>r = .agg [.int .i64 (Tr.withK f v s).port,.int .i64 (Tr.withK f v s).p0,.int .i64 (Tr.withK f v s).p1,.int .i64 (Tr.withK f v s).p2,.int .i64 (Tr.withK f v s).p3,.hs w n]:=by
  refine aA Tryz.func113 rfl (by decide) ?_
  obtain ⟨s0,s1,s2,s3,s4⟩:=s
  rcases Tr.ok5 hf with rfl | rfl | rfl | rfl | rfl
  all_goals
    simp only [Tr.withK]
    repeat' first|(refine sxZ ?_;try clear hK K)|refine sxW ?_ ?_<;>intro _|(intro K hK _;conv=>whnf)
    all_goals rfl
theorem pg (n k:Int):NCall Tryz.prog 150 [.int .i64 n,.int .i64 k] [] fun r _=>r = .int .i64 (Tr.came n k):=by
  refine aA Tryz.func150 rfl (by decide) ?_
  unfold Tr.came
  by_cases h:n=k
  · rw [if_pos h]
    repeat' first|(refine sxZ ?_;try clear hK K)|refine sxW ?_ ?_<;>intro _|(intro K hK _;conv=>whnf)
    all_goals first | (exfalso;omega) | rfl
  · rw [if_neg h]
    repeat' first|(refine sxZ ?_;try clear hK K)|refine sxW ?_ ?_<;>intro _|(intro K hK _;conv=>whnf)
    all_goals first | (exfalso;omega) | rfl
namespace Cm
open Po (S)
def aav (l:List Ac.A):List AV:=l.flatMap Ac.A.av
theorem aav_app (a b:List Ac.A):aav (a++b)=aav a++aav b:=by unfold aav;rw [List.flatMap_append]
theorem aav_den (l:List Ac.A):denL (aav l)=l.flatMap Ac.actV:=by
  induction l with
  | nil=>rfl
  | cons x l ih=>unfold aav at *;rw [List.flatMap_cons,List.flatMap_cons,aQ,ih];rfl
theorem aav_len (l:List Ac.A):(aav l).length=l.length*3:=by
  induction l with
  | nil=>rfl
  | cons x l ih=>unfold aav at *;rw [List.flatMap_cons,List.length_append,ih,List.length_cons,Nat.succ_mul];simp only [Ac.A.av,List.length_cons,List.length_nil];omega
abbrev ARow (F:Heap) (v:Value) (l:List Ac.A):Prop:=aH F 3 (fun x vs=>vs=Ac.actV x) v l
def setsK (s:S) (j:Nat):List Ac.A:=([set1 0 s.p0,set1 1 s.p1,set1 2 s.p2,set1 3 s.p3].take j).flatten
theorem setsK_all (s:S):setsK s 4=sets s:=by simp [setsK,sets,List.append_assoc]
theorem setsK_len (s:S) (j:Nat):(setsK s j).length≤4:=by
  have h0:=set1_len 0 s.p0
  have h1:=set1_len 1 s.p1
  have h2:=set1_len 2 s.p2
  have h3:=set1_len 3 s.p3
  unfold setsK
  match j with
  | 0=>simp
  | 1=>simp;omega
  | 2=>simp;omega
  | 3=>simp;omega
  | j+4=>simp;omega
theorem set1_yes {f v:Int} (h:0≤v):set1 f v=[⟨1,f,v⟩]:=if_pos h
theorem set1_no {f v:Int} (h:¬ 0≤v):set1 f v=[]:=if_neg h
theorem setsK_0 (s:S):setsK s 0=[]:=rfl
theorem setsK_1 (s:S):setsK s 1=setsK s 0++set1 0 s.p0:=by simp [setsK]
theorem setsK_2 (s:S):setsK s 2=setsK s 1++set1 1 s.p1:=by simp [setsK]
theorem setsK_3 (s:S):setsK s 3=setsK s 2++set1 2 s.p2:=by simp [setsK]
theorem setsK_4 (s:S):setsK s 4=setsK s 3++set1 3 s.p3:=by simp [setsK]
theorem aav_1 (l:List Ac.A) (x:Ac.A):aav (l++[x])=aav l++[.int .i64 x.k,.int .i64 x.f,.int .i64 x.v]:=by rw [aav_app];rfl
abbrev Gives (F:Heap) (c:Tr.C) (r:AV) (m:List Blk):Prop:=∃ G v,F.le G∧ARow G v (acts c).1∧SlOk v (acts c).1.length∧r = .tup [.hs v (acts c).1.length,.int .i64 (acts c).2]∧m=[hpB G]
theorem gives_know {f:FuncId} {args:List AV} {F:Heap} {t:TypeId} {m:List Blk} {c:Tr.C} (h:NCall Tryz.prog f args m fun r m'=>∃ G v,F.le G∧r.den=(AV.tup [.raw (aw v),.int .i64 (acts c).2]).den∧MemFits m' [hpB G,⟨addrOf v,aav (acts c).1,.row v t 3 (acts c).1.length⟩]) :
    NCall Tryz.prog f args m fun r m'=>Gives F c r m':=by
  refine Go.Sx.NCall.know h fun r m' ⟨G,v,hle,hr,hm⟩ ⟨w,hw⟩=>?_
  have hok:=((hm w hw).1.row (List.mem_cons_of_mem _ (List.mem_cons_self ..))).1
  have hrow:=aJ (F:=G) (sz:=3) (enc:=Ac.actV) hok (aav_den _) (fun x _=>rfl)
  refine ⟨.tup [.hs v (acts c).1.length,.int .i64 (acts c).2],_,by rw [hr];rfl,hm.trans (MemFits.freeze (m:=[])),_,v,hle.trans addF.old,hrow,hrow.ok,rfl,rfl⟩
end Cm
theorem pz (F:Heap) (c:Tr.C) (A:Value) (hA:Po.SRow F A c.out) (hl:c.out.length≤1000) :
    NCall Tryz.prog 52 [.agg (Tr.cs c A)] [hpB F] fun r m=>Cm.Gives F c r m:=by
  refine Cm.gives_know (t:=120) ?_
  have hok:=hA.ok
  have hst:∀ i (h:i<c.out.length),Cm.st c.s.port (c.out.take (i+1))=Cm.step c.s.port (Cm.st c.s.port (c.out.take i)) c.out[i]:=fun i h=>Cm.st_next h
  have hln:∀ i,i≤c.out.length→(Cm.st c.s.port (c.out.take i)).1.length≤6000:=fun i h=>by
    have:=Cm.st_len c.s.port (c.out.take i)
    rw [List.length_take] at this
    omega
  have hend:Cm.st c.s.port (c.out.take c.out.length)=Cm.st c.s.port c.out:=by rw [List.take_length]
  have h0:Cm.st c.s.port (c.out.take 0)=([],false):=rfl
  have hbad:∀ i (h:i<c.out.length),Cm.port c.s.port c.out[i]<0→Cm.acts c=([],13):=fun i h hb=>by
    unfold Cm.acts
    rw [if_neg fun hp=>?_]
    have:=hp _ (List.getElem_mem h)
    omega
  have hgood:(∀ s∈c.out,0≤Cm.port c.s.port s)→Cm.acts c=if (Cm.st c.s.port c.out).1.length>16 then ([],6) else ((Cm.st c.s.port c.out).1,0):=fun h=>by
    unfold Cm.acts
    rw [if_pos (show Cm.ported c.s.port c.out from h)]
  obtain ⟨⟨s0,s1,s2,s3,s4⟩,O⟩:=c
  dsimp only at *
  generalize hX:Cm.acts _=X at *
  generalize hT:(fun i=>Cm.st s0 (O.take i))=T
  have hT2:∀ i,Cm.st s0 (O.take i)=T i:=fun i=>by rw [← hT]
  simp only [hT2] at hst hln hend h0
  rw [← hend] at hgood
  clear hend hT hT2 hX
  simp only [Tr.cs] at *
  refine aA Tryz.func52 rfl (by decide) ?_
  repeat' first|(refine sxZ ?_;try clear hK K)|refine sxW ?_ ?_<;>intro _|(intro K hK _;conv=>whnf)
  refine aD (α:=Value × Nat) (fun (w,i)=>i≤O.length∧∀ j (h:j<i) (h2:j<O.length),0≤Cm.port s0 O[j]) (fun (w,i)=>[.k,.k,.d,.d,.set (.sl 2 w (T i).1.length),.set (.bool (T i).2),.k,.d,.d,.d,.d,.k,.k,.k,.set (.int .i64 i),.d,.d,.d,.d,.d,.d,.d,.d,.d,.d,.d,.d,.d,.d,.d,.d,.d,.d,.d,.d,.d,.d,.d,.d,.d,.d,.d,.d,.d,.d,.d,.d,.d,.d,.d,.d,.d,.k,.k,.k,.k])
    (fun (w,i)=>[.k,.k,.set ⟨addrOf w,Cm.aav (T i).1,.row w 120 3 (T i).1.length⟩]) (fun (w,i)=>O.length - i) (.slice none 0 0,0) ⟨Nat.zero_le _,fun j h=>absurd h (Nat.not_lt_zero _)⟩ ?_ ?_ ?_
  · dsimp only
    rw [h0]
    exact aC
  · dsimp only
    rw [h0]
    exact (MemFits.nilRow _ 120 3).trans (MemFits.congr rfl)
  (intro ⟨w,i⟩ ⟨hi,hpos⟩;intro K hK;(conv=>whnf);refine hK _ _ ?_;clear hK K)
  dsimp only at hi hpos ⊢
  by_cases hlt:i<O.length
  · obtain ⟨g0,g1,g2,g3,g4⟩:=aH.get5 (f0:=fun s:Po.S=>.int .i64 s.port) (f1:=fun s=>.int .i64 s.p0) (f2:=fun s=>.int .i64 s.p1) (f3:=fun s=>.int .i64 s.p2) (f4:=fun s=>.int .i64 s.p3) hA hlt
    have hs:=hst i hlt
    have hb:=hbad i hlt
    have hl1:=hln i hi
    have hpos2:0≤Cm.port s0 O[i]→∀ j (h:j<i+1) (h2:j<O.length),0≤Cm.port s0 O[j]:=fun h j hj h2=>by
      by_cases e:j=i
      · subst e;exact h
      · exact hpos j (by omega) h2
    clear hst hbad hgood hA hpos hln
    generalize O[i]=x at *
    generalize hTn:T (i+1)=Tn at *
    generalize T i=Ti at *
    obtain ⟨o,p⟩:=Ti
    dsimp only at *
    have hsl:=Cm.setsK_len x
    have hq1:=Cm.setsK_1 x
    have hq2:=Cm.setsK_2 x
    have hq3:=Cm.setsK_3 x
    have hq4:=Cm.setsK_4 x
    have hq0:=Cm.setsK_0 x
    have hall:=Cm.setsK_all x
    unfold Cm.step at hs
    rw [← hall] at hs
    generalize Cm.setsK x=Q at *
    unfold Cm.port at *
    obtain ⟨x0,x1,x2,x3,x4⟩:=x
    dsimp only at *
    have hal:=Cm.aav_len o
    cases p
    · repeat' first|(refine sxZ ?_;try clear hK K)|refine sxW ?_ ?_<;>intro _|(intro K hK _;conv=>whnf)
      generalize o=B at *
      generalize w=w1 at *
      have hs:Tn=(B++[]++Q 4++[⟨2,0,if x0<0 then s0 else x0⟩],!(Q 4).isEmpty):=hs
      rw [List.append_nil] at hs
      have hl1:B.length≤6001:=by omega
      refine aD (α:=Value × Nat) (fun (w,j)=>j≤4) (fun (w,j)=>[.k,.k,.k,.k,.set (.sl 2 w (B++Q j).length),.set (.bool (!(Q j).isEmpty)),.k,.k,.d,.d,.k,.k,.k,.k,.k,.k,.k,.k,.k,.k,.k,.k,.k,.k,.k,.set (.int .i64 j),.d,.d,.d,.d,.d,.d,.d,.d,.d,.d,.d,.d,.k,.k,.k,.k,.k,.k,.k,.k,.k,.k,.k,.k,.k,.k,.k,.k,.k,.k])
        (fun (w,j)=>[.k,.k,.set ⟨addrOf w,Cm.aav (B++Q j),.row w 120 3 (B++Q j).length⟩]) (fun (w,j)=>4 - j) (w1,0) (Nat.zero_le _) ?_ ?_ ?_
      · dsimp only
        rw [hq0,List.append_nil]
        exact aC
      · dsimp only
        rw [hq0,List.append_nil]
        exact MemFits.congr rfl
      (intro ⟨w,j⟩ hj;intro K hK;(conv=>whnf);refine hK _ _ ?_;clear hK K)
      dsimp only at hj ⊢
      have hln:(Cm.aav (B++Q j)).length=(B++Q j).length*3:=Cm.aav_len _
      have hl3:(B++Q j).length≤6005:=by rw [List.length_append];have:=hsl j;omega
      have hj5:j=0∨j=1∨j=2∨j=3∨j=4:=by omega
      rcases hj5 with rfl | rfl | rfl | rfl | rfl
      · have hq:Cm.aav (B++Q 1)=Cm.aav (B++Q 0)++Cm.aav (Cm.set1 0 x1)∧(B++Q 1).length=(B++Q 0).length+(Cm.set1 0 x1).length:=by rw [hq1,← List.append_assoc,Cm.aav_app,List.length_append (bs:=Cm.set1 0 x1)];exact ⟨rfl,rfl⟩
        obtain ⟨e1,e2⟩:=hq
        by_cases h0:0≤x1
        · rw [Cm.set1_yes h0] at e1 e2 hq1
          have e3:(!(Q 1).isEmpty)=true:=by rw [hq1];simp
          generalize hP:B++Q 0=P at *
          generalize Cm.aav P=pa at *
          repeat' first|(refine sxZ ?_;try clear hK K)|refine sxW ?_ ?_<;>intro _|(intro K hK _;conv=>whnf)
          all_goals
            rename_i w2
            refine aB (w2,1) (by show 1≤4;decide) (by show 4 - 1<4 - 0;decide) ?_ (MemFits.pre 4 ?_)
            · dsimp only
              rw [e2,e3]
              exact aC
            · simp only [autoM,e1,e2]
              rfl
        · rw [Cm.set1_no h0,show Cm.aav []=[] from rfl,List.append_nil] at e1
          rw [Cm.set1_no h0,List.append_nil] at hq1
          rw [Cm.set1_no h0,List.length_nil,Nat.add_zero] at e2
          have e3:(!(Q 1).isEmpty)=!(Q 0).isEmpty:=by rw [hq1]
          generalize hP:B++Q 0=P at *
          generalize Cm.aav P=pa at *
          repeat' first|(refine sxZ ?_;try clear hK K)|refine sxW ?_ ?_<;>intro _|(intro K hK _;conv=>whnf)
          all_goals first
            | (exfalso;omega)
            | (refine aB (w,1) (by show 1≤4;decide) (by show 4 - 1<4 - 0;decide) ?_ (MemFits.pre 4 ?_)
               · dsimp only
                 rw [e2,e3]
                 exact aC
               · simp only [autoM,e1,e2]
                 rfl)
      · have hq:Cm.aav (B++Q 2)=Cm.aav (B++Q 1)++Cm.aav (Cm.set1 1 x2)∧(B++Q 2).length=(B++Q 1).length+(Cm.set1 1 x2).length:=by rw [hq2,← List.append_assoc,Cm.aav_app,List.length_append (bs:=Cm.set1 1 x2)];exact ⟨rfl,rfl⟩
        obtain ⟨e1,e2⟩:=hq
        by_cases h0:0≤x2
        · rw [Cm.set1_yes h0] at e1 e2 hq2
          have e3:(!(Q 2).isEmpty)=true:=by rw [hq2];simp
          generalize hP:B++Q 1=P at *
          generalize Cm.aav P=pa at *
          repeat' first|(refine sxZ ?_;try clear hK K)|refine sxW ?_ ?_<;>intro _|(intro K hK _;conv=>whnf)
          all_goals
            rename_i w2
            refine aB (w2,2) (by show 2≤4;decide) (by show 4 - 2<4 - 1;decide) ?_ (MemFits.pre 4 ?_)
            · dsimp only
              rw [e2,e3]
              exact aC
            · simp only [autoM,e1,e2]
              rfl
        · rw [Cm.set1_no h0,show Cm.aav []=[] from rfl,List.append_nil] at e1
          rw [Cm.set1_no h0,List.append_nil] at hq2
          rw [Cm.set1_no h0,List.length_nil,Nat.add_zero] at e2
          have e3:(!(Q 2).isEmpty)=!(Q 1).isEmpty:=by rw [hq2]
          generalize hP:B++Q 1=P at *
          generalize Cm.aav P=pa at *
          repeat' first|(refine sxZ ?_;try clear hK K)|refine sxW ?_ ?_<;>intro _|(intro K hK _;conv=>whnf)
          all_goals first
            | (exfalso;omega)
            | (refine aB (w,2) (by show 2≤4;decide) (by show 4 - 2<4 - 1;decide) ?_ (MemFits.pre 4 ?_)
               · dsimp only
                 rw [e2,e3]
                 exact aC
               · simp only [autoM,e1,e2]
                 rfl)
      · have hq:Cm.aav (B++Q 3)=Cm.aav (B++Q 2)++Cm.aav (Cm.set1 2 x3)∧(B++Q 3).length=(B++Q 2).length+(Cm.set1 2 x3).length:=by rw [hq3,← List.append_assoc,Cm.aav_app,List.length_append (bs:=Cm.set1 2 x3)];exact ⟨rfl,rfl⟩
        obtain ⟨e1,e2⟩:=hq
        by_cases h0:0≤x3
        · rw [Cm.set1_yes h0] at e1 e2 hq3
          have e3:(!(Q 3).isEmpty)=true:=by rw [hq3];simp
          generalize hP:B++Q 2=P at *
          generalize Cm.aav P=pa at *
          repeat' first|(refine sxZ ?_;try clear hK K)|refine sxW ?_ ?_<;>intro _|(intro K hK _;conv=>whnf)
          all_goals
            rename_i w2
            refine aB (w2,3) (by show 3≤4;decide) (by show 4 - 3<4 - 2;decide) ?_ (MemFits.pre 4 ?_)
            · dsimp only
              rw [e2,e3]
              exact aC
            · simp only [autoM,e1,e2]
              rfl
        · rw [Cm.set1_no h0,show Cm.aav []=[] from rfl,List.append_nil] at e1
          rw [Cm.set1_no h0,List.append_nil] at hq3
          rw [Cm.set1_no h0,List.length_nil,Nat.add_zero] at e2
          have e3:(!(Q 3).isEmpty)=!(Q 2).isEmpty:=by rw [hq3]
          generalize hP:B++Q 2=P at *
          generalize Cm.aav P=pa at *
          repeat' first|(refine sxZ ?_;try clear hK K)|refine sxW ?_ ?_<;>intro _|(intro K hK _;conv=>whnf)
          all_goals first
            | (exfalso;omega)
            | (refine aB (w,3) (by show 3≤4;decide) (by show 4 - 3<4 - 2;decide) ?_ (MemFits.pre 4 ?_)
               · dsimp only
                 rw [e2,e3]
                 exact aC
               · simp only [autoM,e1,e2]
                 rfl)
      · have hq:Cm.aav (B++Q 4)=Cm.aav (B++Q 3)++Cm.aav (Cm.set1 3 x4)∧(B++Q 4).length=(B++Q 3).length+(Cm.set1 3 x4).length:=by rw [hq4,← List.append_assoc,Cm.aav_app,List.length_append (bs:=Cm.set1 3 x4)];exact ⟨rfl,rfl⟩
        obtain ⟨e1,e2⟩:=hq
        by_cases h0:0≤x4
        · rw [Cm.set1_yes h0] at e1 e2 hq4
          have e3:(!(Q 4).isEmpty)=true:=by rw [hq4];simp
          generalize hP:B++Q 3=P at *
          generalize Cm.aav P=pa at *
          repeat' first|(refine sxZ ?_;try clear hK K)|refine sxW ?_ ?_<;>intro _|(intro K hK _;conv=>whnf)
          all_goals
            rename_i w2
            refine aB (w2,4) (by show 4≤4;decide) (by show 4 - 4<4 - 3;decide) ?_ (MemFits.pre 4 ?_)
            · dsimp only
              rw [e2,e3]
              exact aC
            · simp only [autoM,e1,e2]
              rfl
        · rw [Cm.set1_no h0,show Cm.aav []=[] from rfl,List.append_nil] at e1
          rw [Cm.set1_no h0,List.append_nil] at hq4
          rw [Cm.set1_no h0,List.length_nil,Nat.add_zero] at e2
          have e3:(!(Q 4).isEmpty)=!(Q 3).isEmpty:=by rw [hq4]
          generalize hP:B++Q 3=P at *
          generalize Cm.aav P=pa at *
          repeat' first|(refine sxZ ?_;try clear hK K)|refine sxW ?_ ?_<;>intro _|(intro K hK _;conv=>whnf)
          all_goals first
            | (exfalso;omega)
            | (refine aB (w,4) (by show 4≤4;decide) (by show 4 - 4<4 - 3;decide) ?_ (MemFits.pre 4 ?_)
               · dsimp only
                 rw [e2,e3]
                 exact aC
               · simp only [autoM,e1,e2]
                 rfl)
      · have hs2:Tn=(B++Q 4++[⟨2,0,if x0<0 then s0 else x0⟩],!(Q 4).isEmpty):=hs
        generalize hP:B++Q 4=P at *
        generalize (!(Q 4).isEmpty)=fl at *
        by_cases hx:x0<0
        · rw [if_pos hx] at hs2 hb hpos2
          by_cases hc:s0<0
          · rw [hb hc]
            repeat' first|(refine sxZ ?_;try clear hK K)|refine sxW ?_ ?_<;>intro _|(intro K hK _;conv=>whnf)
            all_goals first
              | (exfalso;omega)
              | exact ⟨F,.slice none 0 0,F.le_refl,rfl,(MemFits.pre 1 rfl).trans (MemFits.nilRow _ _ _)⟩
          · have ea:=Cm.aav_1 P ⟨2,0,s0⟩
            have el:(P++[(⟨2,0,s0⟩:Ac.A)]).length=P.length+1:=by rw [List.length_append];rfl
            generalize Cm.aav P=pa at *
            repeat' first|(refine sxZ ?_;try clear hK K)|refine sxW ?_ ?_<;>intro _|(intro K hK _;conv=>whnf)
            all_goals first
              | (exfalso;omega)
              | (rename_i w2
                 refine aB (w2,i+1) ⟨hlt,hpos2 (by omega)⟩ (by show O.length - (i+1)<O.length - i;omega) ?_ (MemFits.pre 3 ?_)
                 · dsimp only
                   rw [hTn,hs2]
                   dsimp only
                   rw [el]
                   exact aC
                 · simp only [autoM,hTn,hs2,ea,el]
                   rfl)
        · rw [if_neg hx] at hs2 hb hpos2
          have ea:=Cm.aav_1 P ⟨2,0,x0⟩
          have el:(P++[(⟨2,0,x0⟩:Ac.A)]).length=P.length+1:=by rw [List.length_append];rfl
          generalize Cm.aav P=pa at *
          repeat' first|(refine sxZ ?_;try clear hK K)|refine sxW ?_ ?_<;>intro _|(intro K hK _;conv=>whnf)
          all_goals first
            | (exfalso;omega)
            | (rename_i w2
               refine aB (w2,i+1) ⟨hlt,hpos2 (by omega)⟩ (by show O.length - (i+1)<O.length - i;omega) ?_ (MemFits.pre 3 ?_)
               · dsimp only
                 rw [hTn,hs2]
                 dsimp only
                 rw [el]
                 exact aC
               · simp only [autoM,hTn,hs2,ea,el]
                 rfl)
    · repeat' first|(refine sxZ ?_;try clear hK K)|refine sxW ?_ ?_<;>intro _|(intro K hK _;conv=>whnf)
      rename_i w1
      have hs:Tn=(o++[⟨3,0,0⟩]++Q 4++[⟨2,0,if x0<0 then s0 else x0⟩],!(Q 4).isEmpty):=hs
      have eB:=Cm.aav_1 o ⟨3,0,0⟩
      have lB:(o++[(⟨3,0,0⟩:Ac.A)]).length=o.length+1:=by rw [List.length_append];rfl
      generalize o++[(⟨3,0,0⟩:Ac.A)]=B at *
      have hl1:B.length≤6001:=by omega
      refine aD (α:=Value × Nat) (fun (w,j)=>j≤4) (fun (w,j)=>[.k,.k,.k,.k,.set (.sl 2 w (B++Q j).length),.set (.bool (!(Q j).isEmpty)),.k,.k,.d,.d,.k,.k,.k,.k,.k,.k,.k,.k,.k,.k,.k,.k,.k,.k,.k,.set (.int .i64 j),.d,.d,.d,.d,.d,.d,.d,.d,.d,.d,.d,.d,.k,.k,.k,.k,.k,.k,.k,.k,.k,.k,.k,.k,.k,.k,.k,.k,.k,.k])
        (fun (w,j)=>[.k,.k,.set ⟨addrOf w,Cm.aav (B++Q j),.row w 120 3 (B++Q j).length⟩]) (fun (w,j)=>4 - j) (w1,0) (Nat.zero_le _) ?_ ?_ ?_
      · dsimp only
        rw [hq0,List.append_nil]
        rw [lB]
        exact aC
      · dsimp only
        rw [hq0,List.append_nil]
        rw [lB,eB]
        exact MemFits.congr rfl
      (intro ⟨w,j⟩ hj;intro K hK;(conv=>whnf);refine hK _ _ ?_;clear hK K)
      dsimp only at hj ⊢
      have hln:(Cm.aav (B++Q j)).length=(B++Q j).length*3:=Cm.aav_len _
      have hl3:(B++Q j).length≤6005:=by rw [List.length_append];have:=hsl j;omega
      have hj5:j=0∨j=1∨j=2∨j=3∨j=4:=by omega
      rcases hj5 with rfl | rfl | rfl | rfl | rfl
      · have hq:Cm.aav (B++Q 1)=Cm.aav (B++Q 0)++Cm.aav (Cm.set1 0 x1)∧(B++Q 1).length=(B++Q 0).length+(Cm.set1 0 x1).length:=by rw [hq1,← List.append_assoc,Cm.aav_app,List.length_append (bs:=Cm.set1 0 x1)];exact ⟨rfl,rfl⟩
        obtain ⟨e1,e2⟩:=hq
        by_cases h0:0≤x1
        · rw [Cm.set1_yes h0] at e1 e2 hq1
          have e3:(!(Q 1).isEmpty)=true:=by rw [hq1];simp
          generalize hP:B++Q 0=P at *
          generalize Cm.aav P=pa at *
          repeat' first|(refine sxZ ?_;try clear hK K)|refine sxW ?_ ?_<;>intro _|(intro K hK _;conv=>whnf)
          all_goals
            rename_i w2
            refine aB (w2,1) (by show 1≤4;decide) (by show 4 - 1<4 - 0;decide) ?_ (MemFits.pre 5 ?_)
            · dsimp only
              rw [e2,e3]
              exact aC
            · simp only [autoM,e1,e2]
              rfl
        · rw [Cm.set1_no h0,show Cm.aav []=[] from rfl,List.append_nil] at e1
          rw [Cm.set1_no h0,List.append_nil] at hq1
          rw [Cm.set1_no h0,List.length_nil,Nat.add_zero] at e2
          have e3:(!(Q 1).isEmpty)=!(Q 0).isEmpty:=by rw [hq1]
          generalize hP:B++Q 0=P at *
          generalize Cm.aav P=pa at *
          repeat' first|(refine sxZ ?_;try clear hK K)|refine sxW ?_ ?_<;>intro _|(intro K hK _;conv=>whnf)
          all_goals first
            | (exfalso;omega)
            | (refine aB (w,1) (by show 1≤4;decide) (by show 4 - 1<4 - 0;decide) ?_ (MemFits.pre 5 ?_)
               · dsimp only
                 rw [e2,e3]
                 exact aC
               · simp only [autoM,e1,e2]
                 rfl)
      · have hq:Cm.aav (B++Q 2)=Cm.aav (B++Q 1)++Cm.aav (Cm.set1 1 x2)∧(B++Q 2).length=(B++Q 1).length+(Cm.set1 1 x2).length:=by rw [hq2,← List.append_assoc,Cm.aav_app,List.length_append (bs:=Cm.set1 1 x2)];exact ⟨rfl,rfl⟩
        obtain ⟨e1,e2⟩:=hq
        by_cases h0:0≤x2
        · rw [Cm.set1_yes h0] at e1 e2 hq2
          have e3:(!(Q 2).isEmpty)=true:=by rw [hq2];simp
          generalize hP:B++Q 1=P at *
          generalize Cm.aav P=pa at *
          repeat' first|(refine sxZ ?_;try clear hK K)|refine sxW ?_ ?_<;>intro _|(intro K hK _;conv=>whnf)
          all_goals
            rename_i w2
            refine aB (w2,2) (by show 2≤4;decide) (by show 4 - 2<4 - 1;decide) ?_ (MemFits.pre 5 ?_)
            · dsimp only
              rw [e2,e3]
              exact aC
            · simp only [autoM,e1,e2]
              rfl
        · rw [Cm.set1_no h0,show Cm.aav []=[] from rfl,List.append_nil] at e1
          rw [Cm.set1_no h0,List.append_nil] at hq2
          rw [Cm.set1_no h0,List.length_nil,Nat.add_zero] at e2
          have e3:(!(Q 2).isEmpty)=!(Q 1).isEmpty:=by rw [hq2]
          generalize hP:B++Q 1=P at *
          generalize Cm.aav P=pa at *
          repeat' first|(refine sxZ ?_;try clear hK K)|refine sxW ?_ ?_<;>intro _|(intro K hK _;conv=>whnf)
          all_goals first
            | (exfalso;omega)
            | (refine aB (w,2) (by show 2≤4;decide) (by show 4 - 2<4 - 1;decide) ?_ (MemFits.pre 5 ?_)
               · dsimp only
                 rw [e2,e3]
                 exact aC
               · simp only [autoM,e1,e2]
                 rfl)
      · have hq:Cm.aav (B++Q 3)=Cm.aav (B++Q 2)++Cm.aav (Cm.set1 2 x3)∧(B++Q 3).length=(B++Q 2).length+(Cm.set1 2 x3).length:=by rw [hq3,← List.append_assoc,Cm.aav_app,List.length_append (bs:=Cm.set1 2 x3)];exact ⟨rfl,rfl⟩
        obtain ⟨e1,e2⟩:=hq
        by_cases h0:0≤x3
        · rw [Cm.set1_yes h0] at e1 e2 hq3
          have e3:(!(Q 3).isEmpty)=true:=by rw [hq3];simp
          generalize hP:B++Q 2=P at *
          generalize Cm.aav P=pa at *
          repeat' first|(refine sxZ ?_;try clear hK K)|refine sxW ?_ ?_<;>intro _|(intro K hK _;conv=>whnf)
          all_goals
            rename_i w2
            refine aB (w2,3) (by show 3≤4;decide) (by show 4 - 3<4 - 2;decide) ?_ (MemFits.pre 5 ?_)
            · dsimp only
              rw [e2,e3]
              exact aC
            · simp only [autoM,e1,e2]
              rfl
        · rw [Cm.set1_no h0,show Cm.aav []=[] from rfl,List.append_nil] at e1
          rw [Cm.set1_no h0,List.append_nil] at hq3
          rw [Cm.set1_no h0,List.length_nil,Nat.add_zero] at e2
          have e3:(!(Q 3).isEmpty)=!(Q 2).isEmpty:=by rw [hq3]
          generalize hP:B++Q 2=P at *
          generalize Cm.aav P=pa at *
          repeat' first|(refine sxZ ?_;try clear hK K)|refine sxW ?_ ?_<;>intro _|(intro K hK _;conv=>whnf)
          all_goals first
            | (exfalso;omega)
            | (refine aB (w,3) (by show 3≤4;decide) (by show 4 - 3<4 - 2;decide) ?_ (MemFits.pre 5 ?_)
               · dsimp only
                 rw [e2,e3]
                 exact aC
               · simp only [autoM,e1,e2]
                 rfl)
      · have hq:Cm.aav (B++Q 4)=Cm.aav (B++Q 3)++Cm.aav (Cm.set1 3 x4)∧(B++Q 4).length=(B++Q 3).length+(Cm.set1 3 x4).length:=by rw [hq4,← List.append_assoc,Cm.aav_app,List.length_append (bs:=Cm.set1 3 x4)];exact ⟨rfl,rfl⟩
        obtain ⟨e1,e2⟩:=hq
        by_cases h0:0≤x4
        · rw [Cm.set1_yes h0] at e1 e2 hq4
          have e3:(!(Q 4).isEmpty)=true:=by rw [hq4];simp
          generalize hP:B++Q 3=P at *
          generalize Cm.aav P=pa at *
          repeat' first|(refine sxZ ?_;try clear hK K)|refine sxW ?_ ?_<;>intro _|(intro K hK _;conv=>whnf)
          all_goals
            rename_i w2
            refine aB (w2,4) (by show 4≤4;decide) (by show 4 - 4<4 - 3;decide) ?_ (MemFits.pre 5 ?_)
            · dsimp only
              rw [e2,e3]
              exact aC
            · simp only [autoM,e1,e2]
              rfl
        · rw [Cm.set1_no h0,show Cm.aav []=[] from rfl,List.append_nil] at e1
          rw [Cm.set1_no h0,List.append_nil] at hq4
          rw [Cm.set1_no h0,List.length_nil,Nat.add_zero] at e2
          have e3:(!(Q 4).isEmpty)=!(Q 3).isEmpty:=by rw [hq4]
          generalize hP:B++Q 3=P at *
          generalize Cm.aav P=pa at *
          repeat' first|(refine sxZ ?_;try clear hK K)|refine sxW ?_ ?_<;>intro _|(intro K hK _;conv=>whnf)
          all_goals first
            | (exfalso;omega)
            | (refine aB (w,4) (by show 4≤4;decide) (by show 4 - 4<4 - 3;decide) ?_ (MemFits.pre 5 ?_)
               · dsimp only
                 rw [e2,e3]
                 exact aC
               · simp only [autoM,e1,e2]
                 rfl)
      · have hs2:Tn=(B++Q 4++[⟨2,0,if x0<0 then s0 else x0⟩],!(Q 4).isEmpty):=hs
        generalize hP:B++Q 4=P at *
        generalize (!(Q 4).isEmpty)=fl at *
        by_cases hx:x0<0
        · rw [if_pos hx] at hs2 hb hpos2
          by_cases hc:s0<0
          · rw [hb hc]
            repeat' first|(refine sxZ ?_;try clear hK K)|refine sxW ?_ ?_<;>intro _|(intro K hK _;conv=>whnf)
            all_goals first
              | (exfalso;omega)
              | exact ⟨F,.slice none 0 0,F.le_refl,rfl,(MemFits.pre 1 rfl).trans (MemFits.nilRow _ _ _)⟩
          · have ea:=Cm.aav_1 P ⟨2,0,s0⟩
            have el:(P++[(⟨2,0,s0⟩:Ac.A)]).length=P.length+1:=by rw [List.length_append];rfl
            generalize Cm.aav P=pa at *
            repeat' first|(refine sxZ ?_;try clear hK K)|refine sxW ?_ ?_<;>intro _|(intro K hK _;conv=>whnf)
            all_goals first
              | (exfalso;omega)
              | (rename_i w2
                 refine aB (w2,i+1) ⟨hlt,hpos2 (by omega)⟩ (by show O.length - (i+1)<O.length - i;omega) ?_ (MemFits.pre 3 ?_)
                 · dsimp only
                   rw [hTn,hs2]
                   dsimp only
                   rw [el]
                   exact aC
                 · simp only [autoM,hTn,hs2,ea,el]
                   rfl)
        · rw [if_neg hx] at hs2 hb hpos2
          have ea:=Cm.aav_1 P ⟨2,0,x0⟩
          have el:(P++[(⟨2,0,x0⟩:Ac.A)]).length=P.length+1:=by rw [List.length_append];rfl
          generalize Cm.aav P=pa at *
          repeat' first|(refine sxZ ?_;try clear hK K)|refine sxW ?_ ?_<;>intro _|(intro K hK _;conv=>whnf)
          all_goals first
            | (exfalso;omega)
            | (rename_i w2
               refine aB (w2,i+1) ⟨hlt,hpos2 (by omega)⟩ (by show O.length - (i+1)<O.length - i;omega) ?_ (MemFits.pre 3 ?_)
               · dsimp only
                 rw [hTn,hs2]
                 dsimp only
                 rw [el]
                 exact aC
               · simp only [autoM,hTn,hs2,ea,el]
                 rfl)
  · obtain rfl:i=O.length:=by omega
    have hg:=hgood fun s hs=>by
      obtain ⟨j,hj,e⟩:=List.getElem_of_mem hs
      rw [← e]
      exact hpos j hj hj
    rw [hg]
    by_cases h16:(T O.length).1.length>16
    · rw [if_pos h16]
      repeat' first|(refine sxZ ?_;try clear hK K)|refine sxW ?_ ?_<;>intro _|(intro K hK _;conv=>whnf)
      all_goals first
        | (exfalso;omega)
        | exact ⟨F,.slice none 0 0,F.le_refl,rfl,(MemFits.pre 1 rfl).trans (MemFits.nilRow _ _ _)⟩
    · rw [if_neg h16]
      repeat' first|(refine sxZ ?_;try clear hK K)|refine sxW ?_ ?_<;>intro _|(intro K hK _;conv=>whnf)
      all_goals first
        | (exfalso;omega)
        | exact ⟨F,w,F.le_refl,rfl,MemFits.pick [0,2] (by decide) rfl⟩
namespace Cm
def askC (p a0 a1 a2 a3:Int) (j:Nat):List AV:=[.int .i64 p,.int .i64 (if 0<j then vf a0 else 0),.int .i64 (if 1<j then vf a1 else 0),.int .i64 (if 2<j then vf a2 else 0),.int .i64 (if 3<j then vf a3 else 0),
  .int .i64 (if 0<j then mf 0 a0 else 0),.int .i64 (if 1<j then mf 1 a1 else 0),.int .i64 (if 2<j then mf 2 a2 else 0),.int .i64 (if 3<j then mf 3 a3 else 0)]
theorem vf_yes {v:Int} (h:0≤v):vf v=v:=if_pos h
theorem vf_no {v:Int} (h:¬ 0≤v):vf v=0:=if_neg h
theorem mf_yes {f v:Int} (h:0≤v):mf f v=Mt.top f:=if_pos h
theorem mf_no {f v:Int} (h:¬ 0≤v):mf f v=0:=if_neg h
theorem askC_1 (p a0 a1 a2 a3:Int):askC p a0 a1 a2 a3 1=[.int .i64 p,.int .i64 (vf a0),.int .i64 0,.int .i64 0,.int .i64 0,.int .i64 (mf 0 a0),.int .i64 0,.int .i64 0,.int .i64 0]:=rfl
theorem askC_2 (p a0 a1 a2 a3:Int):askC p a0 a1 a2 a3 2=[.int .i64 p,.int .i64 (vf a0),.int .i64 (vf a1),.int .i64 0,.int .i64 0,.int .i64 (mf 0 a0),.int .i64 (mf 1 a1),.int .i64 0,.int .i64 0]:=rfl
theorem askC_3 (p a0 a1 a2 a3:Int):askC p a0 a1 a2 a3 3=[.int .i64 p,.int .i64 (vf a0),.int .i64 (vf a1),.int .i64 (vf a2),.int .i64 0,.int .i64 (mf 0 a0),.int .i64 (mf 1 a1),.int .i64 (mf 2 a2),.int .i64 0]:=rfl
theorem askC_4 (p a0 a1 a2 a3:Int):askC p a0 a1 a2 a3 4=[.int .i64 p,.int .i64 (vf a0),.int .i64 (vf a1),.int .i64 (vf a2),.int .i64 (vf a3),.int .i64 (mf 0 a0),.int .i64 (mf 1 a1),.int .i64 (mf 2 a2),.int .i64 (mf 3 a3)]:=rfl
end Cm
theorem qt (c:Tr.C) (A:Value):NCall Tryz.prog 53 [.agg (Tr.cs c A)] [] fun r _=>r = .agg (Cm.mt c.s).av:=by
  have t0:=eh 0 (by decide)
  have t1:=eh 1 (by decide)
  have t2:=eh 2 (by decide)
  have t3:=eh 3 (by decide)
  obtain ⟨⟨s0,s1,s2,s3,s4⟩,O⟩:=c
  unfold Cm.mt Mt.M.av
  simp only [Tr.cs] at *
  generalize hp:(if 0≤s0 then s0 else -1)=p
  refine aA Tryz.func53 rfl (by decide) ?_
  by_cases h0:0≤s0
  all_goals
    first | rw [if_pos h0] at hp | rw [if_neg h0] at hp
    repeat' first|(intro K hK;(with_reducible refine gC ?_);refine cP rp ?_)|(refine sxZ ?_;try clear hK K)|refine sxW ?_ ?_<;>intro _|(intro K hK _;conv=>whnf)
    all_goals try (exfalso;omega)
    refine aD (α:=Nat) (fun j=>j≤4) (fun j=>[.k,.k,.k,.k,.d,.d,.k,.k,.k,.k,.k,.k,.k,.set (.int .i64 j),.d,.d,.d,.d,.d,.d,.d,.d,.d,.d,.d,.d,.d,.d,.d,.d,.d,.d,.k]) (fun j=>[.k,.k,.cells (Cm.askC p s1 s2 s3 s4 j)]) (fun j=>4 - j) 0 (Nat.zero_le _) ?_ ?_ ?_
    · exact aC
    · exact MemFits.congr (by rw [← hp];rfl)
    (intro j hj;intro K hK;(conv=>whnf);refine hK _ _ ?_;clear hK K)
    dsimp only at hj ⊢
    have hj5:j=0∨j=1∨j=2∨j=3∨j=4:=by omega
    rcases hj5 with rfl | rfl | rfl | rfl | rfl
    · have e:=Cm.askC_1 p s1 s2 s3 s4
      by_cases h9:0≤s1
      · rw [Cm.vf_yes h9,Cm.mf_yes h9] at e
        repeat' first|(intro K hK;(with_reducible refine gC ?_);refine cP t0 ?_)|(refine aV [2] ?_;try clear hK K)|refine sxW ?_ ?_<;>intro _|refine aW ?_ ?_|(intro K hK _;conv=>whnf)
        all_goals try (exfalso;omega)
        all_goals
          refine aB 1 (by decide) (by decide) ?_ ?_
          · exact aC
          · exact MemFits.congr (by simp only [autoM,e];rfl)
      · rw [Cm.vf_no h9,Cm.mf_no h9] at e
        repeat' first|(refine aV [2] ?_;try clear hK K)|refine sxW ?_ ?_<;>intro _|refine aW ?_ ?_|(intro K hK _;conv=>whnf)
        all_goals try (exfalso;omega)
        all_goals
          refine aB 1 (by decide) (by decide) ?_ ?_
          · exact aC
          · exact MemFits.congr (by simp only [autoM,e];rfl)
    · have e:=Cm.askC_2 p s1 s2 s3 s4
      by_cases h9:0≤s2
      · rw [Cm.vf_yes h9,Cm.mf_yes h9] at e
        repeat' first|(intro K hK;(with_reducible refine gC ?_);refine cP t1 ?_)|(refine aV [2] ?_;try clear hK K)|refine sxW ?_ ?_<;>intro _|refine aW ?_ ?_|(intro K hK _;conv=>whnf)
        all_goals try (exfalso;omega)
        all_goals
          refine aB 2 (by decide) (by decide) ?_ ?_
          · exact aC
          · exact MemFits.congr (by simp only [autoM,e];rfl)
      · rw [Cm.vf_no h9,Cm.mf_no h9] at e
        repeat' first|(refine aV [2] ?_;try clear hK K)|refine sxW ?_ ?_<;>intro _|refine aW ?_ ?_|(intro K hK _;conv=>whnf)
        all_goals try (exfalso;omega)
        all_goals
          refine aB 2 (by decide) (by decide) ?_ ?_
          · exact aC
          · exact MemFits.congr (by simp only [autoM,e];rfl)
    · have e:=Cm.askC_3 p s1 s2 s3 s4
      by_cases h9:0≤s3
      · rw [Cm.vf_yes h9,Cm.mf_yes h9] at e
        repeat' first|(intro K hK;(with_reducible refine gC ?_);refine cP t2 ?_)|(refine aV [2] ?_;try clear hK K)|refine sxW ?_ ?_<;>intro _|refine aW ?_ ?_|(intro K hK _;conv=>whnf)
        all_goals try (exfalso;omega)
        all_goals
          refine aB 3 (by decide) (by decide) ?_ ?_
          · exact aC
          · exact MemFits.congr (by simp only [autoM,e];rfl)
      · rw [Cm.vf_no h9,Cm.mf_no h9] at e
        repeat' first|(refine aV [2] ?_;try clear hK K)|refine sxW ?_ ?_<;>intro _|refine aW ?_ ?_|(intro K hK _;conv=>whnf)
        all_goals try (exfalso;omega)
        all_goals
          refine aB 3 (by decide) (by decide) ?_ ?_
          · exact aC
          · exact MemFits.congr (by simp only [autoM,e];rfl)
    · have e:=Cm.askC_4 p s1 s2 s3 s4
      by_cases h9:0≤s4
      · rw [Cm.vf_yes h9,Cm.mf_yes h9] at e
        repeat' first|(intro K hK;(with_reducible refine gC ?_);refine cP t3 ?_)|(refine aV [2] ?_;try clear hK K)|refine sxW ?_ ?_<;>intro _|refine aW ?_ ?_|(intro K hK _;conv=>whnf)
        all_goals try (exfalso;omega)
        all_goals
          refine aB 4 (by decide) (by decide) ?_ ?_
          · exact aC
          · exact MemFits.congr (by simp only [autoM,e];rfl)
      · rw [Cm.vf_no h9,Cm.mf_no h9] at e
        repeat' first|(refine aV [2] ?_;try clear hK K)|refine sxW ?_ ?_<;>intro _|refine aW ?_ ?_|(intro K hK _;conv=>whnf)
        all_goals try (exfalso;omega)
        all_goals
          refine aB 4 (by decide) (by decide) ?_ ?_
          · exact aC
          · exact MemFits.congr (by simp only [autoM,e];rfl)
    · have e:=Cm.askC_4 p s1 s2 s3 s4
      rw [e]
      repeat' first|(refine sxZ ?_;try clear hK K)|refine sxW ?_ ?_<;>intro _|(intro K hK _;conv=>whnf)
      all_goals first | (exfalso;omega) | rfl
end Go.Proofs.YtmehinfgdcmmjaaGreat
