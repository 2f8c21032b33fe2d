import Derived.Test.YtmehinfgdcmmjaaGreatJ8
import Derived.Test.YtmehinfgdcmmjaaGreatJ13
import Derived.Test.YtmehinfgdcmmjaaGreatJ7
import Derived.Test.YtmehinfgdcmmjaaGreatJ30
import Derived.Test.YtmehinfgdcmmjaaGreatJ38
import Derived.Test.YtmehinfgdcmmjaaGreatJ16
import Derived.Test.YtmehinfgdcmmjaaGreatJ39
import Derived.Test.YtmehinfgdcmmjaaGreatJ4
import Derived.Test.YtmehinfgdcmmjaaGreatJ34
namespace Go.Proofs.YtmehinfgdcmmjaaGreat
open Go.Sx
set_option maxRecDepth 20000
set_option linter.unusedVariables false
namespace Cm
open Po (S)
def p4 (t:S):Ac.P4:=⟨t.p0,t.p1,t.p2,t.p3⟩
def toS (s:Ac.S):S:=⟨s.port,s.p.a,s.p.b,s.p.c,s.p.d⟩
def pick (a b:Int):Int:=if 0≤b then b else a
def setAll (p:Ac.P4) (s:S):Ac.P4:=⟨pick p.a s.p0,pick p.b s.p1,pick p.c s.p2,pick p.d s.p3⟩
theorem fold_set1 (c:Ac.P4) (f v:Int) (hf:0≤f∧f≤3) (hv:v = -1∨(0≤v∧v≤Pd.top f)) (p:Ac.P4) (o:List Ac.S):(set1 f v).foldl (Ac.step c) (p,o)=(if 0≤v then p.set f v else p,o):=by
 unfold set1
 by_cases h:0≤v
 ·rw [if_pos h,if_pos h,List.foldl_cons,List.foldl_nil,Ac.step_1 rfl]
  have hval:Ac.valid f v:=⟨hf.1,by omega,h,by rw [← top_eq hf];omega⟩
  show ((if Ac.valid f v then p.set f v else p),o)=_
  rw [if_pos hval]
 ·rw [if_neg h,if_neg h];rfl
theorem fold_sets (c:Ac.P4) {s:S} (h:okS s) (p:Ac.P4) (o:List Ac.S):(sets s).foldl (Ac.step c) (p,o)=(setAll p s,o):=by
 have h0:=h 0 (by decide)
 have h1:=h 1 (by decide)
 have h2:=h 2 (by decide)
 have h3:=h 3 (by decide)
 unfold sets
 rw [List.foldl_append,List.foldl_append,List.foldl_append,fold_set1 c 0 s.p0 (by decide) h0,fold_set1 c 1 s.p1 (by decide) h1,fold_set1 c 2 s.p2 (by decide) h2,fold_set1 c 3 s.p3 (by decide) h3]
 unfold setAll pick
 obtain ⟨pa,pb,pc,pd⟩:=p
 congr 1
 by_cases k0:0≤s.p0<;>by_cases k1:0≤s.p1<;>by_cases k2:0≤s.p2<;>by_cases k3:0≤s.p3<;>simp [k0,k1,k2,k3,Ac.P4.set]
theorem sets_none {s:S} (h:(sets s).isEmpty=true) (p:Ac.P4):setAll p s=p:=by
 unfold sets at h
 rw [List.isEmpty_iff] at h
 simp only [List.append_eq_nil_iff] at h
 obtain ⟨⟨⟨h0,h1⟩,h2⟩,h3⟩:=h
 have key:∀ {f v a:Int},set1 f v=[]→pick a v=a:=fun {f v a} h=>by
  unfold set1 at h
  unfold pick
  split at h
  ·cases h
  ·rename_i hn;rw [if_neg hn]
 unfold setAll
 rw [key h0,key h1,key h2,key h3]
theorem run_st (cp:Int) (p:Ac.P4):∀ (l:List S),(∀ u∈l,okS u)→∀ (o:List Ac.A × Bool) (q:Ac.P4),(o.2=false→q=p)→(Ac.st p o.1).1=q→((l.foldl (step cp) o).1.foldl (Ac.step p) (p,[])).2=(Ac.st p o.1).2++l.map fun u=>⟨port cp u,setAll p u⟩
 | [],_,o,q,_,_=>by rw [List.foldl_nil,List.map_nil,List.append_nil];rfl
 | u::l,hl,o,q,hq,he=>by
  have hu:=hl u (List.mem_cons_self ..)
  have h1:Ac.st p (step cp o u).1=(setAll p u,(Ac.st p o.1).2++[⟨port cp u,setAll p u⟩]):=by
   unfold step Ac.st
   rw [List.foldl_append,List.foldl_append,List.foldl_append]
   have e0:o.1.foldl (Ac.step p) (p,[])=(q,(Ac.st p o.1).2):=by rw [← he];rfl
   rw [e0]
   have e1:(back o.2).foldl (Ac.step p) (q,(Ac.st p o.1).2)=(p,(Ac.st p o.1).2):=by
    unfold back
    cases ho:o.2 with
    | true=>rw [if_pos rfl,List.foldl_cons,List.foldl_nil,Ac.step_3 rfl]
    | false=>rw [if_neg (by decide),List.foldl_nil,hq ho]
   rw [e1,fold_sets p hu,List.foldl_cons,List.foldl_nil,Ac.step_2 rfl]
  rw [List.foldl_cons,run_st cp p l (fun w hw=>hl w (List.mem_cons_of_mem _ hw)) (step cp o u) (setAll p u) (fun h=>sets_none (by simpa [step] using h) p) (by rw [h1]),h1,List.map_cons,List.append_assoc]
  rfl
theorem run_acts {c:Tr.C} {t:S} (h0:(acts c).2=0) (ho:∀ u∈c.out,okS u) (hc:c.s.port = -1∨c.s.port=t.port):(Ac.run (p4 t) (acts c).1).map toS=c.out.map (Tr.sub t):=by
 have hp:ported c.s.port c.out:=by
  unfold acts at h0
  split at h0
  ·assumption
  ·exact absurd h0 (by decide)
 have h1:(acts c).1=(st c.s.port c.out).1:=by
  unfold acts at h0 ⊢
  rw [if_pos hp] at h0 ⊢
  split at h0
  ·exact absurd h0 (by decide)
  ·rename_i h;rw [if_neg h]
 rw [h1]
 have h2:=run_st c.s.port (p4 t) c.out ho ([],false) (p4 t) (fun _=>rfl) rfl
 have h3:Ac.run (p4 t) (st c.s.port c.out).1=c.out.map fun u=>⟨port c.s.port u,setAll (p4 t) u⟩:=h2
 rw [h3,List.map_map]
 refine List.map_congr_left fun u hu=>?_
 have k0:u.p0 = -1∨(0≤u.p0∧u.p0≤Pd.top 0):=ho u hu 0 (by decide)
 have k1:u.p1 = -1∨(0≤u.p1∧u.p1≤Pd.top 1):=ho u hu 1 (by decide)
 have k2:u.p2 = -1∨(0≤u.p2∧u.p2≤Pd.top 2):=ho u hu 2 (by decide)
 have k3:u.p3 = -1∨(0≤u.p3∧u.p3≤Pd.top 3):=ho u hu 3 (by decide)
 have k4:=ho u hu 4 (by decide)
 have hpu:=hp u hu
 have key:∀ {a v tp:Int},v = -1∨(0≤v∧v≤tp)→pick a v=if v = -1 then a else v:=fun {a v tp} h=>by
  unfold pick
  rcases h with h | h
  ·rw [if_neg (by omega),if_pos h]
  ·rw [if_pos h.1,if_neg (by omega)]
 have e4:port c.s.port u=if u.port = -1 then t.port else u.port:=by
  have k4:u.port = -1∨(0≤u.port∧u.port≤Pd.top 4):=k4
  unfold port at hpu ⊢
  rcases k4 with h | h
  ·rw [if_pos (by omega)] at hpu ⊢
   rw [if_pos h]
   omega
  ·rw [if_neg (by omega),if_neg (by omega)]
 show toS ⟨port c.s.port u,setAll (p4 t) u⟩=Tr.sub t u
 unfold toS Tr.sub setAll p4
 rw [e4,key k0,key k1,key k2,key k3]
def nM (m:Mt.M):Mt.N:=⟨m.p,m.v0.toNat,m.v1.toNat,m.v2.toNat,m.v3.toNat,m.m0.toNat,m.m1.toNat,m.m2.toNat,m.m3.toNat⟩
def kt (t:S) (f:Nat):Nat:=match f with | 0=>t.p0.toNat | 1=>t.p1.toNat | 2=>t.p2.toNat | _=>t.p3.toNat
def hitR (t:S) (y:Ru.R):Bool:=decide (Mt.hits (nM y.m) t.port (kt t))
theorem hit_f {f v a:Int} (hf:0≤f∧f≤3) (hv:v = -1∨(0≤v∧v≤Pd.top f)) (ha:0≤a∧a≤Pd.top f):(a.toNat ^^^ (vf v).toNat) &&& (mf f v).toNat=0↔(v = -1∨v=a):=by
 have hx:∀ n a b:Nat,a<2 ^ n→b<2 ^ n→((a ^^^ b) &&& (2 ^ n - 1)=0↔b=a):=fun n a b h1 h2=>by
  rw [Nat.and_two_pow_sub_one_eq_mod,Nat.mod_eq_of_lt (Nat.xor_lt_two_pow h1 h2)]
  constructor
  ·intro h
   refine Nat.eq_of_testBit_eq fun i=>?_
   have h3:=congrArg (fun x=>x.testBit i) h
   simp only [Nat.testBit_xor,Nat.zero_testBit] at h3
   cases ha:a.testBit i<;>cases hb:b.testBit i<;>simp_all
  ·rintro rfl;exact Nat.xor_self _
 unfold vf mf
 rcases hv with rfl | hv
 ·rw [if_neg (by decide),if_neg (by decide)]
  simp
 ·rw [if_pos hv.1,if_pos hv.1]
  have h4:f=0∨f=1∨f=2∨f=3:=by omega
  have h8:Mt.top f=255∧Pd.top f=255∨Mt.top f=15∧Pd.top f=15:=by rcases h4 with rfl | rfl | rfl | rfl<;>decide
  rcases h8 with ⟨h8,h9⟩ | ⟨h8,h9⟩
  ·rw [h8]
   rw [h9] at hv ha
   have:=hx 8 a.toNat v.toNat (by omega) (by omega)
   rw [show ((255:Int).toNat)=2 ^ 8 - 1 from rfl,this]
   omega
  ·rw [h8]
   rw [h9] at hv ha
   have:=hx 4 a.toNat v.toNat (by omega) (by omega)
   rw [show ((15:Int).toNat)=2 ^ 4 - 1 from rfl,this]
   omega
end Cm
set_option linter.unusedSimpArgs false
theorem q9 (f:Int) (b:Bool) (hb:b=true↔0≤f∧f<4):NCall Tryz.prog 90 [.int .i64 f] [] fun r _=>r = .bool b:=by
 refine aA Tryz.func90 rfl (by decide) ?_
 cases b
 ·have hn:¬ (0≤f∧f<4):=fun h=>by cases hb.2 h
  repeat' first|(refine sxZ ?_;try clear hK K)|refine sxW ?_ ?_<;>intro _|(intro K hK _;conv=>whnf)
  all_goals first
   | rfl
   | (congr 1;simp only [decide_eq_false_iff_not];omega)
   | (exfalso;omega)
 ·have hp:=hb.1 rfl
  repeat' first|(refine sxZ ?_;try clear hK K)|refine sxW ?_ ?_<;>intro _|(intro K hK _;conv=>whnf)
  all_goals first
   | rfl
   | (congr 1;simp only [decide_eq_true_eq];omega)
   | (exfalso;omega)
theorem rQ {f:Int} (h:0≤f∧f<4):f=0∨f=1∨f=2∨f=3:=by omega
theorem qA (p:Ac.P4) (f v:Int):NCall Tryz.prog 57 [.agg p.av,.int .i64 f,.int .i64 v] [] fun r _=>r = .agg (Ac.withF p f v).av:=by
 refine NCall.fits (K:=fun r m=>r = .agg (Ac.withF p f v).av) ?_ fun r m' h=>⟨r,_,rfl,MemFits.eq rfl,h⟩
 refine aA Tryz.func57 rfl (by decide) ?_
 by_cases h4:0≤f∧f<4
 ·have hi:=q9 f true (by simpa using h4)
  have ht:=eh f (by omega)
  have hw:Ac.withF p f v=if 0≤v∧v≤Mt.top f then p.set f v else p:=by
   unfold Ac.withF Ac.valid
   congr 1
   exact propext ⟨fun h=>h.2.2,fun h=>⟨h4.1,h4.2,h⟩⟩
  generalize Ac.withF p f v=E at *
  generalize Mt.top f=tp at *
  obtain ⟨a,b,c,d⟩:=p
  by_cases hv:0≤v∧v≤tp
  ·rw [if_pos hv] at hw
   rcases rQ h4 with rfl | rfl | rfl | rfl
   all_goals
    subst hw
    simp only [Ac.P4.av,Ac.P4.set]
    repeat' first|(intro K hK;(with_reducible refine gC ?_);first|refine cP hi ?_|refine cP ht ?_)|(refine sxZ ?_;try clear hK K)|refine sxW ?_ ?_<;>intro _|(intro K hK _;conv=>whnf)
    all_goals rfl
  ·rw [if_neg hv] at hw
   subst hw
   simp only [Ac.P4.av]
   repeat' first|(intro K hK;(with_reducible refine gC ?_);first|refine cP hi ?_|refine cP ht ?_)|(refine sxZ ?_;try clear hK K)|refine sxW ?_ ?_<;>intro _|(intro K hK _;conv=>whnf)
   all_goals first | rfl | (exfalso;omega)
 ·have hi:=q9 f false (by simpa using h4)
  have hw:Ac.withF p f v=p:=if_neg (fun h:Ac.valid f v=>h4 ⟨h.1,h.2.1⟩)
  rw [hw]
  obtain ⟨a,b,c,d⟩:=p
  simp only [Ac.P4.av]
  repeat' first|(intro K hK;(with_reducible refine gC ?_);refine cP hi ?_)|(refine sxZ ?_;try clear hK K)|refine sxW ?_ ?_<;>intro _|(intro K hK _;conv=>whnf)
  all_goals rfl
namespace Ac
def savs (l:List S):List AV:=l.flatMap S.av
theorem savs_next (l:List S) (x:S):savs (l++[x])=savs l++[.int .i64 x.port,.int .i64 x.p.a,.int .i64 x.p.b,.int .i64 x.p.c,.int .i64 x.p.d]:=by simp [savs,S.av]
theorem savs_len (l:List S):(savs l).length=5*l.length:=by
 induction l with
 | nil=>rfl
 | cons x l ih=>simp only [savs,List.flatMap_cons,List.length_append,List.length_cons] at *;rw [ih];simp only [S.av,List.length_cons,List.length_nil];omega
theorem savs_den (l:List S):denL (savs l)=l.flatMap sentV:=by
 induction l with
 | nil=>rfl
 | cons x l ih=>simp only [savs,List.flatMap_cons,S.av,sentV,List.cons_append,List.nil_append,denL,AV.den] at *;rw [ih]
theorem st_out {p:P4} {l:List A} {k:Nat} {x:A} (h:l[k]?=some x) :
  (st p (l.take (k+1))).1=(if x.k=3 then p else if x.k=1 then withF (st p (l.take k)).1 x.f x.v else (st p (l.take k)).1) ∧
  (st p (l.take (k+1))).2=(if x.k=2 then (st p (l.take k)).2++[⟨x.v,(st p (l.take k)).1⟩] else (st p (l.take k)).2):=by
 rw [st_next h]
 unfold step
 by_cases h3:x.k=3
 ·simp [h3]
 ·by_cases h1:x.k=1
  ·simp [h1]
  ·by_cases h2:x.k=2
   ·simp [h2]
   ·simp [h1,h2,h3]
end Ac
set_option maxHeartbeats 2000000 in
theorem od (F:Heap) (v:Value) (l:List Ac.A) (hv:aH F 3 (fun x vs=>vs=Ac.actV x) v l) (hn:l.length≤1000) (p:Ac.P4) :
  NCall Tryz.prog 23 [.hs v l.length,.agg p.av] [hpB F] fun r m=>∃ u l',l'=Ac.run p l∧r.den=aw u∧MemFits m [hpB F,⟨addrOf u,Ac.savs l',.row u 48 5 l'.length⟩]:=by
 have hok:=hv.ok
 refine aA Tryz.func23 rfl (by decide) ?_
 repeat' first|(refine sxZ ?_;try clear hK K)|refine sxW ?_ ?_<;>intro _|(intro K hK _;conv=>whnf)
 refine aD (α:=Value × Nat) (fun (u,k)=>k≤l.length) (fun (u,k)=>[.k,.k,.k,.k,.k,.set (.sl 3 u (Ac.st p (l.take k)).2.length),.k,.k,.d,.k,.k,.k,.set (.int .i64 k),.d,.d,.d,.d,.d,.d,.d,.d,.d,.d,.d,.d,.d,.d,.d,.d,.d,.d,.d,.d,.d,.d,.d,.d,.d,.d,.k])
  (fun (u,k)=>[.k,.cells (Ac.st p (l.take k)).1.av,.k,.set ⟨addrOf u,Ac.savs (Ac.st p (l.take k)).2,.row u 48 5 (Ac.st p (l.take k)).2.length⟩]) (fun (u,k)=>l.length - k) (.slice none 0 0,0) (Nat.zero_le _) ?_ (MemFits.nilRow _ _ _) ?_
 ·exact aC
 (intro ⟨u,k⟩ hk;intro K hK;(conv=>whnf);refine hK _ _ ?_;clear hK K)
 have hso:=Ac.st_len p (l.take k)
 rw [List.length_take] at hso
 have hsv:=Ac.savs_len (Ac.st p (l.take k)).2
 by_cases hlt:k<l.length
 ·obtain ⟨g0,g1,g2⟩:=hv.get3 hlt
  have hx:l[k]?=some l[k]:=List.getElem?_eq_getElem hlt
  obtain ⟨e1,e2⟩:=Ac.st_out (p:=p) hx
  generalize l[k]=x at *
  have hw:=qA (Ac.st p (l.take k)).1 x.f x.v
  have hnx:=Ac.savs_next (Ac.st p (l.take k)).2 ⟨x.v,(Ac.st p (l.take k)).1⟩
  generalize hs':Ac.st p (l.take (k+1))=s' at *
  generalize Ac.st p (l.take k)=s at *
  obtain ⟨q,o⟩:=s
  obtain ⟨q',o'⟩:=s'
  obtain ⟨pa,pb,pc,pd⟩:=p
  dsimp only at *
  generalize hW:Ac.withF q x.f x.v=W at *
  obtain ⟨wa,wb,wc,wd⟩:=W
  obtain ⟨qa,qb,qc,qd⟩:=q
  obtain ⟨xk,xf,xv⟩:=x
  dsimp only at *
  simp only [Ac.P4.av] at *
  by_cases h3:xk=3
  ·rw [if_pos h3] at e1
   rw [if_neg (by omega)] at e2
   subst e1 e2
   repeat' first|(refine sxZ ?_;try clear hK K)|refine sxW ?_ ?_<;>intro _|(intro K hK _;conv=>whnf)
   refine aB (u,k+1) hlt (by dsimp only;omega) ?_ (MemFits.pre 4 ?_)
   ·rw [hs']
    exact aC
   ·simp only [autoM,List.take]
    rw [hs']
    try rfl
  ·rw [if_neg h3] at e1
   by_cases h1:xk=1
   ·rw [if_pos h1] at e1
    rw [if_neg (by omega)] at e2
    subst e1 e2
    repeat' first|(intro K hK;(with_reducible refine gC ?_);refine cP hw ?_)|(refine sxZ ?_;try clear hK K)|refine sxW ?_ ?_<;>intro _|(intro K hK _;conv=>whnf)
    refine aB (u,k+1) hlt (by dsimp only;omega) ?_ (MemFits.pre 4 ?_)
    ·rw [hs']
     exact aC
    ·simp only [autoM,List.take]
     rw [hs']
     try rfl
   ·rw [if_neg h1] at e1
    by_cases h2:xk=2
    ·rw [if_pos h2] at e2
     subst e1
     have hol:o'.length=o.length+1:=by rw [e2];simp
     rw [← e2] at hnx
     generalize Ac.savs o=so at *
     repeat' first|(refine sxZ ?_;try clear hK K)|refine sxW ?_ ?_<;>intro _|(intro K hK _;conv=>whnf)
     all_goals
      rename_i v2
      refine aB (v2,k+1) hlt (by dsimp only;omega) ?_ (MemFits.pre 4 ?_)
      ·rw [hs']
       exact aC
      ·simp only [autoM,List.take]
       rw [hs']
       dsimp only
       rw [hnx,hol]
       rfl
    ·rw [if_neg h2] at e2
     subst e1 e2
     repeat' first|(refine sxZ ?_;try clear hK K)|refine sxW ?_ ?_<;>intro _|(intro K hK _;conv=>whnf)
     refine aB (u,k+1) hlt (by dsimp only;omega) ?_ (MemFits.pre 4 ?_)
     ·rw [hs']
      exact aC
     ·simp only [autoM,List.take]
      rw [hs']
      try rfl
 ·have e:k=l.length:=by omega
  subst e
  rw [List.take_length]
  repeat' first|(refine sxZ ?_;try clear hK K)|refine sxW ?_ ?_<;>intro _|(intro K hK _;conv=>whnf)
  exact ⟨u,_,rfl,rfl,MemFits.pick [0,3] (by decide) rfl⟩
theorem rI (F:Heap) (v:Value) (l:List Ac.A) (hv:aH F 3 (fun x vs=>vs=Ac.actV x) v l) (hn:l.length≤1000) (p:Ac.P4) :
  NCall Tryz.prog 23 [.hs v l.length,.agg p.av] [hpB F] fun r m=>∃ F' u l',l'=Ac.run p l∧F.le F'∧r = .hs u l'.length∧m=[hpB F']∧aH F' 5 (fun x us=>us=Ac.sentV x) u l' :=
 NCall.grow Ac.sentV Ac.savs (fun l'=>l'=Ac.run p l) (od F v l hv hn p) Ac.savs_den (fun _=>rfl)
set_option maxHeartbeats 4000000
namespace Cm
theorem nM_toM {m:Mt.M} (h:m.ok):(nM m).toM=m:=by
 obtain ⟨p,v0,v1,v2,v3,m0,m1,m2,m3⟩:=m
 have h0:_∧_∧_∧_∧_:=h.2 0 (by decide)
 have h1:_∧_∧_∧_∧_:=h.2 1 (by decide)
 have h2:_∧_∧_∧_∧_:=h.2 2 (by decide)
 have h3:_∧_∧_∧_∧_:=h.2 3 (by decide)
 have e0:0≤m0∧0≤v0:=⟨h0.1,h0.2.2.1⟩
 have e1:0≤m1∧0≤v1:=⟨h1.1,h1.2.2.1⟩
 have e2:0≤m2∧0≤v2:=⟨h2.1,h2.2.2.1⟩
 have e3:0≤m3∧0≤v3:=⟨h3.1,h3.2.2.1⟩
 unfold nM Mt.N.toM
 simp only [Mt.M.mk.injEq,true_and]
 omega
theorem nM_lt {m:Mt.M} (h:m.ok):(nM m).lt:=by
 refine Mt.N.ok.lt ((Mt.N.ok_iff _).1 ?_)
 rw [nM_toM h]
 exact h
structure In (t:Po.S):Prop where
 p0:0≤t.p0∧t.p0≤255
 p1:0≤t.p1∧t.p1≤255
 p2:0≤t.p2∧t.p2≤15
 p3:0≤t.p3∧t.p3≤255
theorem kt_lt {t:Po.S} (h:In t):∀ f,f<4→kt t f<256:=fun f hf=>by
 have h0:=h.p0
 have h1:=h.p1
 have h2:=h.p2
 have h3:=h.p3
 have:f=0∨f=1∨f=2∨f=3:=by omega
 rcases this with rfl | rfl | rfl | rfl
 ·show t.p0.toNat<256;omega
 ·show t.p1.toNat<256;omega
 ·show t.p2.toNat<256;omega
 ·show t.p3.toNat<256;omega
theorem kt_av {t:Po.S} (h:In t):rJ (kt t) = .agg [.int .i64 t.p0,.int .i64 t.p1,.int .i64 t.p2,.int .i64 t.p3]:=by
 have h0:=h.p0
 have h1:=h.p1
 have h2:=h.p2
 have h3:=h.p3
 show AV.agg [.int .i64 (t.p0.toNat:Nat),.int .i64 (t.p1.toNat:Nat),.int .i64 (t.p2.toNat:Nat),.int .i64 (t.p3.toNat:Nat)]=_
 rw [Int.toNat_of_nonneg h0.1,Int.toNat_of_nonneg h1.1,Int.toNat_of_nonneg h2.1,Int.toNat_of_nonneg h3.1]
theorem hit_rule {t:Po.S} (h:In t) {c:Tr.C} (hc:okS c.s) (n k:Nat):hitR t (rule n k c)=Tr.hit t c:=by
 have h0:=h.p0
 have h1:=h.p1
 have h2:=h.p2
 have h3:=h.p3
 have k0:=hit_f (f:=0) (by decide) (hc 0 (by decide)) (a:=t.p0) h0
 have k1:=hit_f (f:=1) (by decide) (hc 1 (by decide)) (a:=t.p1) h1
 have k2:=hit_f (f:=2) (by decide) (hc 2 (by decide)) (a:=t.p2) h2
 have k3:=hit_f (f:=3) (by decide) (hc 3 (by decide)) (a:=t.p3) h3
 have k4:c.s.port = -1∨(0≤c.s.port∧c.s.port≤Pd.top 4):=hc 4 (by decide)
 have ep:(if 0≤c.s.port then c.s.port else -1)=c.s.port:=by
  rcases k4 with h | h
  ·rw [if_neg (by omega),h]
  ·rw [if_pos h.1]
 have q:Mt.hits (nM (mt c.s)) t.port (kt t)↔(c.s.port = -1∨c.s.port=t.port)∧((c.s.p0 = -1∨c.s.p0=t.p0)∧(c.s.p1 = -1∨c.s.p1=t.p1)∧(c.s.p2 = -1∨c.s.p2=t.p2)∧(c.s.p3 = -1∨c.s.p3=t.p3)):=by
  unfold Mt.hits
  refine and_congr ?_ ?_
  ·show ((if 0≤c.s.port then c.s.port else -1) = -1∨(if 0≤c.s.port then c.s.port else -1)=t.port)↔_
   rw [ep]
  ·constructor
   ·intro hh
    exact ⟨k0.1 (hh 0 (by decide)),k1.1 (hh 1 (by decide)),k2.1 (hh 2 (by decide)),k3.1 (hh 3 (by decide))⟩
   ·rintro ⟨a0,a1,a2,a3⟩ f hf
    have:f=0∨f=1∨f=2∨f=3:=by omega
    rcases this with rfl | rfl | rfl | rfl
    ·exact k0.2 a0
    ·exact k1.2 a1
    ·exact k2.2 a2
    ·exact k3.2 a3
 rw [Tr.hit_eq]
 unfold hitR
 rw [Bool.eq_iff_iff]
 simp only [decide_eq_true_eq,Bool.and_eq_true]
 rw [show Mt.hits (nM (rule n k c).m) t.port (kt t)↔_ from q]
 constructor
 ·rintro ⟨a,b,d,e,f⟩;exact ⟨b,d,e,f,a⟩
 ·rintro ⟨b,d,e,f,a⟩;exact ⟨a,b,d,e,f⟩
theorem find_rules {t:Po.S} (h:In t) (n:Nat):∀ (l:List Tr.C) (i:Nat),(∀ c∈l,okS c.s)→∀ c,l.find? (Tr.hit t)=some c→∃ k,(rules n i l).find? (hitR t)=some (rule n k c)
 | [],i,_,c,hc=>by simp at hc
 | x::l,i,hl,c,hc=>by
  have e:=hit_rule h (hl x (List.mem_cons_self ..)) n i
  rw [rules,List.find?_cons,e]
  rw [List.find?_cons] at hc
  cases hx:Tr.hit t x with
  | true =>
   rw [hx] at hc
   injection hc with hc
   subst hc
   exact ⟨i,rfl⟩
  | false =>
   rw [hx] at hc
   exact find_rules h n l (i+1) (fun y hy=>hl y (List.mem_cons_of_mem _ hy)) c hc
theorem srow_of {F:Heap} {v:Value} {l:List Ac.S} (h:aH F 5 (fun x us=>us=Ac.sentV x) v l):Po.SRow F v (l.map toS):=by
 refine ⟨by rw [List.length_map];exact h.ok,fun k x hx=>?_⟩
 rw [List.getElem?_map] at hx
 cases hp:l[k]? with
 | none=>rw [hp] at hx;cases hx
 | some p =>
  rw [hp] at hx
  simp only [Option.map_some,Option.some.injEq] at hx
  subst hx
  obtain ⟨us,h1,h2,h3⟩:=h.at_ k p hp
  exact ⟨us,h1,h2,h3⟩
end Cm
theorem pL (F:Heap) (t:Po.S) (ht:Cm.In t) (y:Ru.R) (hy:y.m.ok) (A:Value) (tb pb:Addr) (hp:CellsF F pb 0 [.int .i64 t.p0,.int .i64 t.p1,.int .i64 t.p2,.int .i64 t.p3]) (hq:F.c (tb.add 0) (.int .i64 t.port)) :
  NCall Tryz.prog 55 [.agg (y.cs A),.hp tb 0,.hp pb 0] [hpB F] fun r m=>r = .bool (Cm.hitR t y)∧m=[hpB F]:=by
 refine NCall.fits (K:=fun r m=>r = .bool (Cm.hitR t y)∧MemFits m [hpB F]) ?_ fun r m' h=>⟨r,_,rfl,h.2,h.1,rfl⟩
 have ch:=rP (Cm.nM y.m) (Cm.nM_lt hy) t.port (Cm.kt t) (Cm.kt_lt ht)
 rw [Cm.nM_toM hy,Cm.kt_av ht] at ch
 have ch:NCall Tryz.prog 56 [.agg y.m.av,.int .i64 t.port,.agg [.int .i64 t.p0,.int .i64 t.p1,.int .i64 t.p2,.int .i64 t.p3]] [] fun r _=>r = .bool (Cm.hitR t y):=ch
 obtain ⟨e0,e1,e2,e3,_⟩:=hp
 generalize Cm.hitR t y=z at *
 clear ht hy
 obtain ⟨t0,t1,t2,t3,t4⟩:=t
 obtain ⟨y0,⟨n0,n1,n2,n3,n4,n5,n6,n7,n8⟩,yo⟩:=y
 simp only [Cm.cs_eq,Mt.M.av] at *
 refine aA Tryz.func55 rfl (by decide) ?_
 repeat' first|(intro K hK;(with_reducible refine gC ?_);refine cP ch ?_)|(refine aV [] ?_;try clear hK K)|refine sxW ?_ ?_<;>intro _|refine aW ?_ ?_|(intro K hK _;conv=>whnf)
 all_goals exact ⟨rfl,MemFits.pre 1 rfl⟩
theorem qh (F:Heap) (t:Po.S) (ht:Cm.In t) (v:Value) (l:List Ru.R) (hv:Cm.Row F v l) (hm:∀ y∈l,y.m.ok) (hn:l.length≤4611686018427387904) :
  NCall Tryz.prog 22 [.hs v l.length,.int .i64 t.port,.agg [.int .i64 t.p0,.int .i64 t.p1,.int .i64 t.p2,.int .i64 t.p3]] [hpB F] fun r m=>r = .int .i64 (Cm.ix (Cm.hitR t) l)∧m=[hpB F]:=by
 refine NCall.fits (K:=fun r m=>r = .int .i64 (Cm.ix (Cm.hitR t) l)∧MemFits m [hpB F]) ?_ fun r m' h=>⟨r,_,rfl,h.2,h.1,rfl⟩
 have hok:=hv.ok
 have kE:∀ a b:Nat,NCall Tryz.prog 54 [.hs v l.length,.fn 55 [] [.ptr 1 ⟨a,0,none⟩ 0,.ptr 2 ⟨b,0,none⟩ 0]] [hpB F,⟨⟨a,0,none⟩,[.int .i64 t.port],.var 3⟩,⟨⟨b,0,none⟩,[.int .i64 t.p0,.int .i64 t.p1,.int .i64 t.p2,.int .i64 t.p3],.var 27⟩] fun r m=>r = .int .i64 (Cm.ix (Cm.hitR t) l)∧m=[hpB F,⟨⟨a,0,none⟩,[.int .i64 t.port],.var 3⟩,⟨⟨b,0,none⟩,[.int .i64 t.p0,.int .i64 t.p1,.int .i64 t.p2,.int .i64 t.p3],.var 27⟩]:=fun a b=>by
  have hnew:=addF.new (F:=F) (a:=⟨a,0,none⟩) (vs:=denL [.int .i64 t.port])
  obtain ⟨d0,_⟩:=hnew
  exact NCall.keep (kZ (addF (addF F ⟨a,0,none⟩ (denL [.int .i64 t.port])) ⟨b,0,none⟩ (denL [.int .i64 t.p0,.int .i64 t.p1,.int .i64 t.p2,.int .i64 t.p3])) (Cm.hitR t) v l (Cm.Row.mono (addF.old.trans addF.old) hv) hn 55 [.hp ⟨a,0,none⟩ 0,.hp ⟨b,0,none⟩ 0] fun y hy A hA=>pL _ t ht y (hm y hy) A _ _ addF.new (addF.old.c _ _ d0)) rfl ((MemFits.freezeVar (m:=[_])).trans (MemFits.freezeVar (m:=[]))) rfl fun r mL' h=>⟨r,rfl,h.1,rfl⟩
 generalize Cm.ix (Cm.hitR t) l=z at *
 clear ht
 obtain ⟨t0,t1,t2,t3,t4⟩:=t
 simp only at *
 refine aA Tryz.func22 rfl (by decide) ?_
 repeat' first|(intro K hK;(with_reducible refine gC ?_);refine cS [0,1,2] (kE _ _) ?_)|(refine sxZ ?_;try clear hK K)|refine sxW ?_ ?_<;>intro _|(intro K hK _;conv=>whnf)
 all_goals exact ⟨rfl,MemFits.pre 1 rfl⟩
theorem rH (F:Heap) (t:Po.S) (ht:Cm.In t) (v:Value) (l:List Ru.R) (hv:Cm.Row F v l) (hm:∀ y∈l,y.m.ok) (hn:l.length≤4611686018427387904) (y:Ru.R) (hy:l.find? (Cm.hitR t)=some y) (hal:y.acts.length≤1000) :
  NCall Tryz.prog 9 [.hs v l.length,.int .i64 t.port,.agg [.int .i64 t.p0,.int .i64 t.p1,.int .i64 t.p2,.int .i64 t.p3]] [hpB F] fun r m=>∃ G u,F.le G∧Po.SRow G u ((Ac.run (Cm.p4 t) y.acts).map Cm.toS)∧r = .hs u ((Ac.run (Cm.p4 t) y.acts).map Cm.toS).length∧m=[hpB G]:=by
 refine NCall.fits (K:=fun r m=>∃ G u,F.le G∧Po.SRow G u ((Ac.run (Cm.p4 t) y.acts).map Cm.toS)∧r = .hs u ((Ac.run (Cm.p4 t) y.acts).map Cm.toS).length∧MemFits m [hpB G]) ?_ fun r m' ⟨G,u,h1,h2,h3,h4⟩=>⟨r,_,rfl,h4,G,u,h1,h2,h3,rfl⟩
 have hok:=hv.ok
 have cf:=qh F t ht v l hv hm hn
 obtain ⟨i,hi,hix⟩:=Cm.ix_find hy
 rw [hi] at cf
 have hilt:i<l.length:=(List.getElem?_eq_some_iff.1 hix).1
 obtain ⟨A,cap,hA,c0,c1,c2,c3,c4,c5,c6,c7,c8,c9,c10⟩:=hv.get hix
 have cr:=(rI F _ y.acts hA hal (Cm.p4 t)).mono (K':=fun r m=>∃ G u,F.le G∧Po.SRow G u ((Ac.run (Cm.p4 t) y.acts).map Cm.toS)∧r = .hs u ((Ac.run (Cm.p4 t) y.acts).map Cm.toS).length∧m=[hpB G]) fun r m ⟨G,u,l',h1,h2,h3,h4,h5⟩=>by
  subst h1
  exact ⟨G,u,h2,Cm.srow_of h5,by rw [List.length_map];exact h3,h4⟩
 have hoA:=hA.ok
 generalize (Ac.run (Cm.p4 t) y.acts).map Cm.toS=L at *
 clear ht hm hy hi hix hA hv
 obtain ⟨t0,t1,t2,t3,t4⟩:=t
 obtain ⟨y0,⟨n0,n1,n2,n3,n4,n5,n6,n7,n8⟩,yo⟩:=y
 simp only [Cm.p4,Ac.P4.av] at *
 refine aA Tryz.func9 rfl (by decide) ?_
 repeat' first|(intro K hK;(with_reducible refine gC ?_);first|refine cS [0] cf ?_|(refine cN [0] cr ?_;rintro _ _ ⟨G,u,h1,h2,rfl,rfl⟩;refine cR ?_))|(refine aV [0] ?_;try clear hK K)|refine sxW ?_ ?_<;>intro _|refine aW ?_ ?_|(intro K hK _;conv=>whnf)
 all_goals first | (exfalso;omega) | exact ⟨G,u,h1,h2,rfl,MemFits.pre 1 rfl⟩
end Go.Proofs.YtmehinfgdcmmjaaGreat
