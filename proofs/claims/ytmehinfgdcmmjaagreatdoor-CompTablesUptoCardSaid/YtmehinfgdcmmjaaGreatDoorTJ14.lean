/- A part of the proof. -/
import Derived.Test.YtmehinfgdcmmjaaGreatDoorTCm2
import Derived.Test.YtmehinfgdcmmjaaGreatDoorTJ4
import Derived.Test.YtmehinfgdcmmjaaGreatDoorTJ1
namespace Go.Proofs.YtmehinfgdcmmjaaGreatDoor
open Go.Sx
set_option maxRecDepth 20000
set_option linter.unusedSimpArgs false
set_option linter.unusedVariables false
set_option maxHeartbeats 4000000
namespace Cm
def askC (p a0 a1 a2 a3:Int) (j:Nat):List AV:=[.int .i64 p,.int .i64 (if 0<j then vf a0 else 0),.int .i64 (if 1<j then vf a1 else 0),.int .i64 (if 2<j then vf a2 else 0),.int .i64 (if 3<j then vf a3 else 0),
 .int .i64 (if 0<j then mf 0 a0 else 0),.int .i64 (if 1<j then mf 1 a1 else 0),.int .i64 (if 2<j then mf 2 a2 else 0),.int .i64 (if 3<j then mf 3 a3 else 0)]
theorem vf_yes {v:Int} (h:0≤v):vf v=v:=if_pos h
theorem vf_no {v:Int} (h:¬ 0≤v):vf v=0:=if_neg h
theorem mf_yes {f v:Int} (h:0≤v):mf f v=Mt.top f:=if_pos h
theorem mf_no {f v:Int} (h:¬ 0≤v):mf f v=0:=if_neg h
theorem askC_1 (p a0 a1 a2 a3:Int):askC p a0 a1 a2 a3 1=[.int .i64 p,.int .i64 (vf a0),.int .i64 0,.int .i64 0,.int .i64 0,.int .i64 (mf 0 a0),.int .i64 0,.int .i64 0,.int .i64 0]:=rfl
theorem askC_2 (p a0 a1 a2 a3:Int):askC p a0 a1 a2 a3 2=[.int .i64 p,.int .i64 (vf a0),.int .i64 (vf a1),.int .i64 0,.int .i64 0,.int .i64 (mf 0 a0),.int .i64 (mf 1 a1),.int .i64 0,.int .i64 0]:=rfl
theorem askC_3 (p a0 a1 a2 a3:Int):askC p a0 a1 a2 a3 3=[.int .i64 p,.int .i64 (vf a0),.int .i64 (vf a1),.int .i64 (vf a2),.int .i64 0,.int .i64 (mf 0 a0),.int .i64 (mf 1 a1),.int .i64 (mf 2 a2),.int .i64 0]:=rfl
theorem askC_4 (p a0 a1 a2 a3:Int):askC p a0 a1 a2 a3 4=[.int .i64 p,.int .i64 (vf a0),.int .i64 (vf a1),.int .i64 (vf a2),.int .i64 (vf a3),.int .i64 (mf 0 a0),.int .i64 (mf 1 a1),.int .i64 (mf 2 a2),.int .i64 (mf 3 a3)]:=rfl
end Cm
theorem qU (c:Tr.C) (A:Value):Qz Tryz.prog 28 [.agg (Tr.cs c A)] [] fun r _=>r = .agg (Cm.mt c.s).av:=by
 have t0:=top_c 0 (by decide)
 have t1:=top_c 1 (by decide)
 have t2:=top_c 2 (by decide)
 have t3:=top_c 3 (by decide)
 obtain ⟨⟨s0,s1,s2,s3,s4⟩,O⟩:=c
 unfold Cm.mt Mt.M.av
 simp only [Tr.cs] at *
 generalize hp:(if 0≤s0 then s0 else -1)=p
 refine aB Tryz.func28 rfl (by decide) ?_
 by_cases h0:0≤s0
 all_goals
  first | rw [if_pos h0] at hp | rw [if_neg h0] at hp
  repeat' first|(intro K hK;(with_reducible refine gC ?_);refine cP any_c ?_)|(refine sxZ ?_;try clear hK K)|refine sxW ?_ ?_<;>intro _|(intro K hK _;conv=>whnf)
  all_goals try (exfalso;omega)
  refine aE (α:=Nat) (fun j=>j≤4) (fun j=>[.k,.k,.k,.k,.d,.d,.k,.k,.k,.k,.k,.k,.k,.set (.int .i64 j),.d,.d,.d,.d,.d,.d,.d,.d,.d,.d,.d,.d,.d,.d,.d,.d,.d,.d,.k]) (fun j=>[.k,.k,.cells (Cm.askC p s1 s2 s3 s4 j)]) (fun j=>4 - j) 0 (Nat.zero_le _) ?_ ?_ ?_
  ·exact aD
  ·exact Qw.congr (by rw [← hp];rfl)
  (intro j hj;intro K hK;(conv=>whnf);refine hK _ _ ?_;clear hK K)
  dsimp only at hj ⊢
  have hj5:j=0∨j=1∨j=2∨j=3∨j=4:=by omega
  rcases hj5 with rfl | rfl | rfl | rfl | rfl
  ·have e:=Cm.askC_1 p s1 s2 s3 s4
   by_cases h9:0≤s1
   ·rw [Cm.vf_yes h9,Cm.mf_yes h9] at e
    repeat' first|(intro K hK;(with_reducible refine gC ?_);refine cP t0 ?_)|(refine aJ [2] ?_;try clear hK K)|refine sxW ?_ ?_<;>intro _|refine aK ?_ ?_|(intro K hK _;conv=>whnf)
    all_goals try (exfalso;omega)
    all_goals
     refine aC 1 (by decide) (by decide) ?_ ?_
     ·exact aD
     ·exact Qw.congr (by simp only [autoM,e];rfl)
   ·rw [Cm.vf_no h9,Cm.mf_no h9] at e
    repeat' first|(refine aJ [2] ?_;try clear hK K)|refine sxW ?_ ?_<;>intro _|refine aK ?_ ?_|(intro K hK _;conv=>whnf)
    all_goals try (exfalso;omega)
    all_goals
     refine aC 1 (by decide) (by decide) ?_ ?_
     ·exact aD
     ·exact Qw.congr (by simp only [autoM,e];rfl)
  ·have e:=Cm.askC_2 p s1 s2 s3 s4
   by_cases h9:0≤s2
   ·rw [Cm.vf_yes h9,Cm.mf_yes h9] at e
    repeat' first|(intro K hK;(with_reducible refine gC ?_);refine cP t1 ?_)|(refine aJ [2] ?_;try clear hK K)|refine sxW ?_ ?_<;>intro _|refine aK ?_ ?_|(intro K hK _;conv=>whnf)
    all_goals try (exfalso;omega)
    all_goals
     refine aC 2 (by decide) (by decide) ?_ ?_
     ·exact aD
     ·exact Qw.congr (by simp only [autoM,e];rfl)
   ·rw [Cm.vf_no h9,Cm.mf_no h9] at e
    repeat' first|(refine aJ [2] ?_;try clear hK K)|refine sxW ?_ ?_<;>intro _|refine aK ?_ ?_|(intro K hK _;conv=>whnf)
    all_goals try (exfalso;omega)
    all_goals
     refine aC 2 (by decide) (by decide) ?_ ?_
     ·exact aD
     ·exact Qw.congr (by simp only [autoM,e];rfl)
  ·have e:=Cm.askC_3 p s1 s2 s3 s4
   by_cases h9:0≤s3
   ·rw [Cm.vf_yes h9,Cm.mf_yes h9] at e
    repeat' first|(intro K hK;(with_reducible refine gC ?_);refine cP t2 ?_)|(refine aJ [2] ?_;try clear hK K)|refine sxW ?_ ?_<;>intro _|refine aK ?_ ?_|(intro K hK _;conv=>whnf)
    all_goals try (exfalso;omega)
    all_goals
     refine aC 3 (by decide) (by decide) ?_ ?_
     ·exact aD
     ·exact Qw.congr (by simp only [autoM,e];rfl)
   ·rw [Cm.vf_no h9,Cm.mf_no h9] at e
    repeat' first|(refine aJ [2] ?_;try clear hK K)|refine sxW ?_ ?_<;>intro _|refine aK ?_ ?_|(intro K hK _;conv=>whnf)
    all_goals try (exfalso;omega)
    all_goals
     refine aC 3 (by decide) (by decide) ?_ ?_
     ·exact aD
     ·exact Qw.congr (by simp only [autoM,e];rfl)
  ·have e:=Cm.askC_4 p s1 s2 s3 s4
   by_cases h9:0≤s4
   ·rw [Cm.vf_yes h9,Cm.mf_yes h9] at e
    repeat' first|(intro K hK;(with_reducible refine gC ?_);refine cP t3 ?_)|(refine aJ [2] ?_;try clear hK K)|refine sxW ?_ ?_<;>intro _|refine aK ?_ ?_|(intro K hK _;conv=>whnf)
    all_goals try (exfalso;omega)
    all_goals
     refine aC 4 (by decide) (by decide) ?_ ?_
     ·exact aD
     ·exact Qw.congr (by simp only [autoM,e];rfl)
   ·rw [Cm.vf_no h9,Cm.mf_no h9] at e
    repeat' first|(refine aJ [2] ?_;try clear hK K)|refine sxW ?_ ?_<;>intro _|refine aK ?_ ?_|(intro K hK _;conv=>whnf)
    all_goals try (exfalso;omega)
    all_goals
     refine aC 4 (by decide) (by decide) ?_ ?_
     ·exact aD
     ·exact Qw.congr (by simp only [autoM,e];rfl)
  ·have e:=Cm.askC_4 p s1 s2 s3 s4
   rw [e]
   repeat' first|(refine sxZ ?_;try clear hK K)|refine sxW ?_ ?_<;>intro _|(intro K hK _;conv=>whnf)
   all_goals first | (exfalso;omega) | rfl
namespace Tp
def plV (x:Pl):List Value:=[.int .i64 x.1,.int .i64 x.2]
def plC (ps:List Pl):List AV:=ps.flatMap fun x=>[.int .i64 x.1,.int .i64 x.2]
abbrev PRow (F:Heap) (v:Value) (l:List Pl):Prop:=aI F 2 (fun x us=>us=plV x) v l
theorem plC_len (ps:List Pl):(plC ps).length=ps.length*2:=by
 induction ps with
 | nil=>rfl
 | cons p ps ih=>unfold plC at *;rw [List.flatMap_cons,List.length_append,ih];simp only [List.length_cons,List.length_nil];omega
theorem plC_next (ps:List Pl) (p:Pl):plC (ps++[p])=plC ps++[.int .i64 p.1,.int .i64 p.2]:=by unfold plC;rw [List.flatMap_append];simp
theorem plC_next2 (ps:List Pl) (p q:Pl):plC (ps++[p,q])=plC ps++[.int .i64 p.1,.int .i64 p.2,.int .i64 q.1,.int .i64 q.2]:=by unfold plC;rw [List.flatMap_append];simp
theorem plC_den (ps:List Pl):denL (plC ps)=ps.flatMap plV:=by
 induction ps with
 | nil=>rfl
 | cons p ps ih=>unfold plC at *;rw [List.flatMap_cons,List.flatMap_cons,aS,ih];rfl
theorem PRow.get {F:Heap} {v:Value} {l:List Pl} (h:PRow F v l) {i:Nat} {x:Pl} (hx:l[i]?=some x) :
  F.c ((addrOf v).add (i*2)) (.int .i64 x.1)∧F.c ((addrOf v).add (i*2+1)) (.int .i64 x.2):=by
 obtain ⟨us,rfl,_,h2⟩:=h.at_ i x hx
 simp only [plV,CellsF,Nat.add_assoc,Nat.reduceAdd] at h2
 obtain ⟨c0,c1,_⟩:=h2
 exact ⟨c0,c1⟩
def plK (x:Pl):Value:=.agg #[.int .i64 x.1,.int .i64 x.2]
theorem plK_inj {x y:Pl} (h:plK x=plK y):x=y:=by
 obtain ⟨a,b⟩:=x
 obtain ⟨c,d⟩:=y
 unfold plK at h
 injection h with h
 simp at h
 rw [h.1,h.2]
def seenL (l:List Pl):List (Value × Value):=l.map fun x=>(plK x,.int .i64 1)
theorem seen_next (l:List Pl) (x:Pl):seenL (l++[x])=seenL l++[(plK x,.int .i64 1)]:=by unfold seenL;rw [List.map_append];rfl
def plOkV (v:Value):Prop:=∃ l:List Int,l.length=2∧v=gL l
theorem plK_ok (x:Pl):plOkV (plK x):=⟨[x.1,x.2],rfl,rfl⟩
theorem seen_ok {l:List Pl}:∀ q∈seenL l,plOkV q.1:=fun q hq=>by
 obtain ⟨x,_,rfl⟩:=List.mem_map.1 hq
 exact plK_ok x
theorem seen_no {l:List Pl} {x:Pl} (h:x ∉ l):∀ q∈seenL l,q.1≠plK x:=fun q hq e=>by
 obtain ⟨y,hy,rfl⟩:=List.mem_map.1 hq
 exact h (plK_inj e ▸ hy)
theorem seen_at {l:List Pl} {x:Pl} (hn:l.Nodup) (h:x∈l):∃ i,i<l.length∧bM (seenL l) (plK x) (some (i,.int .i64 1))∧(seenL l)[i]?=some (plK x,.int .i64 1):=by
 obtain ⟨i,hi,rfl⟩:=List.getElem_of_mem h
 have e:(seenL l)[i]?=some (plK l[i],.int .i64 1):=by unfold seenL;rw [List.getElem?_map,List.getElem?_eq_getElem hi];rfl
 refine ⟨i,hi,⟨e,fun j q hj hq=>?_⟩,e⟩
 unfold seenL at hq
 rw [List.getElem?_map,List.getElem?_eq_getElem (by omega)] at hq
 simp only [Option.map_some,Option.some.injEq] at hq
 subst hq
 intro he
 have:=(List.getElem_inj hn).1 (plK_inj he)
 omega
end Tp
theorem iv:ei Tryz.prog 198 Tp.plOkV:=ei.ints (by kernel_rfl) (by kernel_rfl) (by kernel_rfl)
theorem iz (a p:Int):(AV.agg [.int .i64 a,.int .i64 p]).den=Tp.plK (a,p):=dx [a,p]
theorem dw (b:Nat):(AV.raw (Value.map (some b))).den = .map (some b):=by rw [AV.den]
section
variable {t:TypeId} {m:List Blk} {K:AV→List Blk→Prop} {b j:Nat} {M:List (Value × Value)} {a p:Int}
theorem fL (hu:Tryz.prog.underlying t=some (.map 198 3)) (hb:bN m b M) (hM:∀ q∈M,Tp.plOkV q.1) (hn:∀ q∈M,q.1≠Tp.plK (a,p)) (hK:K (.int .i64 0) m) :
  NMap Tryz.prog (Instr.lookup t (AV.raw (Value.map (some b))).den (AV.agg [.int .i64 a,.int .i64 p]).den false) m K:=by
 rw [iz,dw]
 exact NMap.look_none (z:=.int .i64 0) hu (by kernel_rfl) iv hb hM (Tp.plK_ok _) hn hK
theorem bS (v:Int) (i:Nat) (hu:Tryz.prog.underlying t=some (.map 198 3)) (hb:bN m b M) (hM:∀ q∈M,Tp.plOkV q.1) (hi:bM M (Tp.plK (a,p)) (some (i,.int .i64 v))) (hK:K (.int .i64 v) m) :
  NMap Tryz.prog (Instr.lookup t (AV.raw (Value.map (some b))).den (AV.agg [.int .i64 a,.int .i64 p]).den false) m K:=by
 rw [iz,dw]
 exact NMap.look_some (x:=.int .i64 v) hu iv hb hM (Tp.plK_ok _) hi (by rw [AV.den]) hK
theorem eb (hu:Tryz.prog.underlying t=some (.map 198 3)) (hj:m[j]?=some (aa b M)) (hM:∀ q∈M,Tp.plOkV q.1) (hn:∀ q∈M,q.1≠Tp.plK (a,p)) (hK:setBlkK m j (aa b (M++[(Tp.plK (a,p),.int .i64 0)])) (K (.tup [.int .i64 0,.int .i64 M.length]))) :
  NMap Tryz.prog (Instr.mapEntry t (AV.raw (Value.map (some b))).den (AV.agg [.int .i64 a,.int .i64 p]).den) m K:=by
 rw [iz,dw]
 refine NMap.entry_new (z:=.int .i64 0) hu (by kernel_rfl) iv hj hM (Tp.plK_ok _) hn ?_
 rw [AV.den]
 exact hK
theorem iy (v:Int) (i:Nat) (hu:Tryz.prog.underlying t=some (.map 198 3)) (hj:m[j]?=some (aa b M)) (hM:∀ q∈M,Tp.plOkV q.1) (hi:bM M (Tp.plK (a,p)) (some (i,.int .i64 v))) (hK:setBlkK m j (aa b M) (K (.tup [.int .i64 v,.int .i64 i]))) :
  NMap Tryz.prog (Instr.mapEntry t (AV.raw (Value.map (some b))).den (AV.agg [.int .i64 a,.int .i64 p]).den) m K:=by
 rw [iz,dw]
 exact NMap.entry_old (x:=.int .i64 v) hu iv hj hM (Tp.plK_ok _) hi (by rw [AV.den]) hK
theorem ga {k v:Value} (hn:∀ q∈M,q.1≠k):bM (M++[(k,v)]) k (some (M.length,v)):=by
 refine ⟨by simp,fun j q hj hq=>?_⟩
 rw [List.getElem?_append_left hj] at hq
 exact hn q (List.mem_of_getElem? hq)
theorem nW {k v v0:Value} {i:Nat} (hi:bM M k (some (i,v0))):bM (M.set i (k,v)) k (some (i,v)):=by
 have hlt:=(List.getElem?_eq_some_iff.1 hi.1).1
 refine ⟨by simp [hlt],fun j q hj hq=>?_⟩
 rw [List.getElem?_set_ne (by omega)] at hq
 exact hi.2 j q hj hq
theorem eY {k v0:Value} {v:Int} (hj:m[j]?=some (aa b (M++[(k,v0)]))) (hK:setBlkK m j (aa b (M++[(k,.int .i64 v)])) (K (.raw undef))) :
  NMap Tryz.prog (do Instr.entryStore t (AV.raw (Value.map (some b))).den (AV.int IntKind.i64 M.length).den (AV.int IntKind.i64 v).den;pure undef) m K:=by
 rw [dw,AV.den,AV.den]
 refine NMap.entry_store (k:=k) (v0:=v0) hj (by simp) ?_
 rw [List.set_append_right _ _ (Nat.le_refl _),Nat.sub_self]
 exact hK
theorem iw {k v0:Value} {v:Int} {i:Nat} (hj:m[j]?=some (aa b M)) (hi:M[i]?=some (k,v0)) (hK:setBlkK m j (aa b (M.set i (k,.int .i64 v))) (K (.raw undef))) :
  NMap Tryz.prog (do Instr.entryStore t (AV.raw (Value.map (some b))).den (AV.int IntKind.i64 i).den (AV.int IntKind.i64 v).den;pure undef) m K:=by
 rw [dw,AV.den,AV.den]
 exact NMap.entry_store hj hi hK
theorem mF {k v:Value} (hM:∀ q∈M,Tp.plOkV q.1) (hk:Tp.plOkV k):∀ q∈M++[(k,v)],Tp.plOkV q.1:=fun q hq=>by
 rcases List.mem_append.1 hq with h | h
 ·exact hM q h
 ·simp only [List.mem_singleton] at h;subst h;exact hk
theorem qn {k v:Value} {i:Nat} (hM:∀ q∈M,Tp.plOkV q.1) (hk:Tp.plOkV k):∀ q∈M.set i (k,v),Tp.plOkV q.1:=fun q hq=>by
 rcases List.mem_or_eq_of_mem_set hq with h | h
 ·exact hM q h
 ·subst h;exact hk
end
theorem lQ (F:Heap) (t:Tp.T) (lv hv:Value) (ht:Tp.At F t lv hv) (hl:t.ls.length≤1000) (hh:t.hs.length≤1000):Qz Tryz.prog 131 [.agg (Tp.cs t lv hv)] [hpB F] fun r m=>∃ F' v,F.le F'∧Tp.PRow F' v (Tp.places t)∧r = .hs v (Tp.places t).length∧m=[hpB F']:=by
 refine Go.Sx.Qz.know (K:=fun r m=>∃ w,r.den=(AV.sl 1 w (Tp.places t).length).den∧Qw m [hpB F,⟨addrOf w,Tp.plC (Tp.places t),.row w 198 2 (Tp.places t).length⟩]) ?_ fun r m' ⟨w,hr,hm⟩ ⟨W,hw⟩=>?_
 rotate_left
 ·have hok:=((hm W hw).1.row (List.mem_cons_of_mem _ (List.mem_cons_self ..))).1
  have hrow:=aM (F:=F) (sz:=2) (enc:=Tp.plV) hok (Tp.plC_den _) (fun x _=>rfl)
  exact ⟨.hs w (Tp.places t).length,_,hr.symm,hm.trans (Qw.freeze (m:=[])),_,w,addF.old,hrow,rfl,rfl⟩
 have hlo:=ht.l.ok
 have hho:=ht.h.ok
 obtain ⟨n,ls,hs⟩:=t
 unfold Tp.cs
 simp only at *
 have hpl:(Tp.places ⟨n,ls,hs⟩)=ls.flatMap Tp.lkP++hs.map Tp.hsP:=rfl
 generalize Tp.places ⟨n,ls,hs⟩=L at *
 refine aB Tryz.func131 rfl (by decide) ?_
 repeat' first|(refine sxZ ?_;try clear hK K)|refine sxW ?_ ?_<;>intro _|(intro K hK _;conv=>whnf)
 refine aE (α:=Value × Nat × List Tp.Pl) (fun (w,i,ps)=>i≤ls.length∧ps.length=2*i∧ps=(ls.take i).flatMap Tp.lkP) (fun (w,i,ps)=>[.k,.k,.k,.set (.sl 2 w ps.length),.k,.d,.k,.k,.k,.k,.k,.set (.int .i64 i),.d,.d,.d,.d,.d,.d,.d,.d,.d,.d,.d,.d,.d,.d,.d,.d,.d,.k,.k,.k,.k,.k,.k,.k,.k,.k,.k,.k,.k,.k,.k,.k,.k,.k])
  (fun (w,i,ps)=>[.k,.k,.set ⟨addrOf w,Tp.plC ps,.row w 198 2 ps.length⟩]) (fun (w,i,ps)=>ls.length - i) (.slice none 0 0,0,[]) ⟨Nat.zero_le _,rfl,rfl⟩ ?_ ((Qw.nilRow _ 198 2).trans (Qw.congr rfl)) ?_
 ·exact aD
 (intro ⟨w,i,ps⟩ ⟨hi,hpn,hps⟩;intro K hK;(conv=>whnf);refine hK _ _ ?_;clear hK K)
 dsimp only
 generalize hk:ps.length=k at *
 have hpcl:=Tp.plC_len ps
 by_cases hlt:i<ls.length
 ·have hx:ls[i]?=some ls[i]:=List.getElem?_eq_getElem hlt
  obtain ⟨c0,c1,c2,c3,c4,c5⟩:=ht.l.get hx
  have hnx:(ls.take (i+1)).flatMap Tp.lkP=ps++Tp.lkP ls[i]:=by rw [List.take_add_one,hx,List.flatMap_append,hps];simp
  generalize ls[i]=x at *
  have hn2:=Tp.plC_next2 ps (x.a,x.pa) (x.b,x.pb)
  generalize hpc:Tp.plC ps=pc at *
  obtain ⟨a,pa,b,pb,least,most⟩:=x
  repeat' first|(refine sxZ ?_;try clear hK K)|refine sxW ?_ ?_<;>intro _|(intro K hK _;conv=>whnf)
  all_goals
   rename_i v9
   refine aC (v9,i+1,ps++[(a,pa),(b,pb)]) ⟨hlt,by rw [List.length_append,hk,hpn];show 2*i+2=2*(i+1);omega,hnx.symm⟩ (show ls.length - (i+1)<ls.length - i by omega) ?_ (Qw.pre 3 ?_)
   ·simp only [List.length_append,hk]
    exact aD
   ·simp only [autoM,List.take,List.length_append,hk,hn2]
    rw [show k+[((a,pa):Tp.Pl),(b,pb)].length=k+2 from rfl]
    rfl
 have hkl:i=ls.length:=by omega
 subst hkl
 rw [List.take_length] at hps
 have hps0:=hps
 generalize hpc:Tp.plC ps=pc at *
 repeat' first|(refine sxZ ?_;try clear hK K)|refine sxW ?_ ?_<;>intro _|(intro K hK _;conv=>whnf)
 subst hpc
 refine aE (α:=Value × Nat × List Tp.Pl) (fun (w,i,qs)=>i≤hs.length∧qs.length=k+i∧qs=ps++(hs.take i).map Tp.hsP) (fun (w,i,qs)=>[.k,.k,.k,.set (.sl 2 w qs.length),.k,.k,.k,.d,.k,.k,.k,.k,.k,.k,.k,.k,.k,.k,.k,.k,.k,.k,.k,.k,.k,.k,.k,.k,.k,.k,.k,.k,.set (.int .i64 i),.d,.d,.d,.d,.d,.d,.d,.d,.d,.d,.d,.d,.k])
  (fun (w,i,qs)=>[.k,.k,.set ⟨addrOf w,Tp.plC qs,.row w 198 2 qs.length⟩]) (fun (w,i,qs)=>hs.length - i) (w,0,ps) ⟨Nat.zero_le _,hk,by simp⟩ ?_ (Qw.eq (by simp only [autoM,hk])) ?_
 ·simp only [hk]
  exact aD
 (intro ⟨w,i,qs⟩ ⟨hi,hqn,hqs⟩;intro K hK;(conv=>whnf);refine hK _ _ ?_;clear hK K)
 dsimp only
 generalize hk2:qs.length=k2 at *
 have hqcl:=Tp.plC_len qs
 by_cases hlt:i<hs.length
 ·have hx:hs[i]?=some hs[i]:=List.getElem?_eq_getElem hlt
  obtain ⟨c0,c1⟩:=ht.h.get hx
  have hnx:ps++(hs.take (i+1)).map Tp.hsP=qs++[Tp.hsP hs[i]]:=by rw [List.take_add_one,hx,List.map_append,hqs,List.append_assoc];rfl
  generalize hs[i]=x at *
  have hn2:=Tp.plC_next qs (x.at_,x.port)
  generalize hpc:Tp.plC qs=pc at *
  obtain ⟨at_,port⟩:=x
  repeat' first|(refine sxZ ?_;try clear hK K)|refine sxW ?_ ?_<;>intro _|(intro K hK _;conv=>whnf)
  all_goals
   rename_i v9
   refine aC (v9,i+1,qs++[(at_,port)]) ⟨hlt,(by rw [List.length_append,hk2,hqn]<;>rfl),hnx.symm⟩ (show hs.length - (i+1)<hs.length - i by omega) ?_ (Qw.pre 3 ?_)
   ·simp only [List.length_append,hk2]
    exact aD
   ·simp only [autoM,List.take,List.length_append,hk2,hn2]
    rw [show k2+[((at_,port):Tp.Pl)].length=k2+1 from rfl]
    rfl
 have hkl:i=hs.length:=by omega
 subst hkl
 rw [List.take_length] at hqs
 rw [hpl,← hps0,← hqs,hk2]
 repeat' first|(refine sxZ ?_;try clear hK K)|refine sxW ?_ ?_<;>intro _|(intro K hK _;conv=>whnf)
 all_goals exact ⟨w,rfl,Qw.pick [0,2] (by decide) rfl⟩
theorem nz (F:Heap) (t:Tp.T) (lv hv:Value) (ht:Tp.At F t lv hv) (hl:t.ls.length≤1000) (hh:t.hs.length≤1000):Qz Tryz.prog 90 [.agg (Tp.cs t lv hv)] [hpB F] fun r m=>r = .bool (Tp.right t)∧m=[hpB F]:=by
 refine Qz.fits (K:=fun r m=>r = .bool (Tp.right t)∧∃ F',F.le F'∧Qw m [hpB F']) ?_ fun r m' ⟨h1,F',h2,h3⟩=>⟨r,_,rfl,h3.trans (Qw.less h2 []),h1,rfl⟩
 have hlo:=ht.l.ok
 have hho:=ht.h.ok
 have cp:=(lQ F t lv hv ht hl hh).mono (K':=fun r m=>∃ F' v,F.le F'∧Tp.PRow F' v (Tp.places t)∧SlOk v (Tp.places t).length∧r = .hs v (Tp.places t).length∧m=[hpB F']) fun r m ⟨F',v,h1,h2,h3,h4⟩=>⟨F',v,h1,h2,h2.ok,h3,h4⟩
 have hpn:=Tp.places_len t
 by_cases hb:Tp.bounds t=true
 rotate_left
 ·have hb:Tp.bounds t=false:=by simpa using hb
  rw [Tp.right_bounds hb]
  unfold Tp.bounds at hb
  rw [decide_eq_false_iff_not] at hb
  clear ht cp hpn
  obtain ⟨n,ls,hs⟩:=t
  unfold Tp.cs
  simp only at *
  generalize ls.length=a at *
  generalize hs.length=b at *
  refine aB Tryz.func90 rfl (by decide) ?_
  repeat' first|(refine sxZ ?_;try clear hK K)|refine sxW ?_ ?_<;>intro _|(intro K hK _;conv=>whnf)
  all_goals exact ⟨rfl,F,F.le_refl,Qw.pre 1 rfl⟩
 have hbd:=hb
 unfold Tp.bounds at hbd
 rw [decide_eq_true_eq] at hbd
 have hgo:∀ (q:Bool),t.ls.all Tp.lkOk=false→Tp.right t=false:=fun _ h=>Tp.right_lk h
 have hgp:(Tp.places t).all (Tp.plOk t)=false→Tp.right t=false:=Tp.right_pl
 have hgd:¬ (Tp.places t).Nodup→Tp.right t=false:=Tp.right_dup
 have hyes:=Tp.right_ok (t:=t) hb
 generalize Tp.right t=R at *
 obtain ⟨n,ls,hs⟩:=t
 unfold Tp.cs at *
 simp only at *
 refine aB Tryz.func90 rfl (by decide) ?_
 repeat' first|(refine sxZ ?_;try clear hK K)|refine sxW ?_ ?_<;>intro _|(intro K hK _;conv=>whnf)
 refine aE (α:=Nat) (fun i=>i≤ls.length∧(ls.take i).all Tp.lkOk=true) (fun i=>[.k,.k,.set (.bool false),.k,.d,.k,.k,.k,.k,.k,.k,.k,.k,.k,.k,.k,.k,.k,.k,.k,.k,.k,.k,.k,.k,.k,.k,.k,.k,.k,.k,.set (.int .i64 i),.d,.d,.d,.d,.d,.d,.d,.d,.d,.d,.d,.d,.d,.d,.d,.d,.d,.d,.d,.d,.d,.d,.d,.d,.d,.d,.k,.k,.k,.k,.k,.k,.k,.k,.k,.k,.k,.k,.k,.k,.k,.k,.k,.k,.k,.k,.k,.k,.k,.k,.k,.k,.k,.k,.k,.k,.k,.k,.k,.k,.k,.k,.k,.k,.k,.k,.k]) (fun _=>[]) (fun i=>ls.length - i) 0 ⟨Nat.zero_le _,rfl⟩ ?_ (Qw.eq rfl) ?_
 ·exact aD
 (intro i ⟨hi,hall⟩;intro K hK;(conv=>whnf);refine hK _ _ ?_;clear hK K)
 by_cases hlt:i<ls.length
 ·have hx:ls[i]?=some ls[i]:=List.getElem?_eq_getElem hlt
  obtain ⟨c0,c1,c2,c3,c4,c5⟩:=ht.l.get hx
  have hnx:=Tp.all_next (q:=Tp.lkOk) hx
  have hno:=fun h=>hgo true (Tp.all_not (q:=Tp.lkOk) hx h)
  clear hgo hgp hgd hyes cp
  generalize ls[i]=x at *
  obtain ⟨a,pa,b,pb,least,most⟩:=x
  dsimp only at c0 c1 c2 c3 c4 c5
  by_cases hk:Tp.lkOk ⟨a,pa,b,pb,least,most⟩=true
  ·have hk2:=hk
   unfold Tp.lkOk at hk2
   rw [decide_eq_true_eq] at hk2
   simp only at hk2
   repeat' first|(refine sxZ ?_;try clear hK K)|refine sxW ?_ ?_<;>intro _|(intro K hK _;conv=>whnf)
   refine aC (i+1) ⟨hlt,by rw [hnx,hall,hk];rfl⟩ (by omega) ?_ (Qw.pre 2 rfl)
   exact aD
  ·have hk:Tp.lkOk ⟨a,pa,b,pb,least,most⟩=false:=by simpa using hk
   rw [hno hk]
   have hk2:=hk
   unfold Tp.lkOk at hk2
   rw [decide_eq_false_iff_not] at hk2
   simp only at hk2
   repeat' first|(refine sxZ ?_;try clear hK K)|refine sxW ?_ ?_<;>intro _|(intro K hK _;conv=>whnf)
   all_goals first
    | exact ⟨rfl,F,F.le_refl,Qw.pre 1 rfl⟩
    | (exfalso;omega)
 have hkl:i=ls.length:=by omega
 subst hkl
 rw [List.take_length] at hall
 have hyes:=hyes hall
 clear hgo
 clear hpn
 have hpln:(Tp.places ⟨n,ls,hs⟩).length≤100:=by rw [Tp.places_len];show 2*ls.length+hs.length≤100;omega
 have hplok:∀ q,Tp.plOk ⟨n,ls,hs⟩ q=decide ((0≤q.1∧q.1<n)∧0≤q.2∧q.2<8):=fun q=>rfl
 generalize Tp.places ⟨n,ls,hs⟩=L at *
 generalize Tp.plOk ⟨n,ls,hs⟩=ok at *
 repeat' first|((try intro K hK);(with_reducible refine gC ?_);(refine cN [0] cp ?_;rintro _ _ ⟨F1,v1,hle1,hrow,hok1,rfl,rfl⟩;refine cR ?_))|((try intro K hK);((with_reducible refine df ?_);refine NMap.make fun b=>?_;conv=>whnf))|(refine sxZ ?_;try clear hK K)|refine sxW ?_ ?_<;>intro _|(intro K hK _;conv=>whnf)|(intro _;conv=>whnf)
 refine aE (α:=Nat) (fun i=>i≤L.length∧(L.take i).all ok=true∧(L.take i).Nodup) (fun i=>[.k,.k,.set (.bool false),.k,.k,.k,.k,.d,.k,.k,.k,.k,.k,.k,.k,.k,.k,.k,.k,.k,.k,.k,.k,.k,.k,.k,.k,.k,.k,.k,.k,.k,.k,.k,.k,.k,.k,.k,.k,.k,.k,.k,.k,.k,.k,.k,.k,.k,.k,.k,.k,.k,.k,.k,.k,.k,.k,.k,.k,.k,.k,.k,.set (.int .i64 i),.d,.d,.d,.d,.d,.d,.d,.d,.d,.d,.d,.d,.d,.d,.d,.d,.d,.d,.d,.d,.d,.d,.d,.d,.d,.d,.d,.d,.d,.d,.d,.d,.d,.d,.d,.d]) (fun i=>[.k,.k,.set (aa b (Tp.seenL (L.take i)))]) (fun i=>L.length - i) 0 ⟨Nat.zero_le _,rfl,by simp⟩ ?_ ?_ ?_
 ·exact aD
 ·exact Qw.eq rfl
 (intro i ⟨hi,hal,hnd⟩;intro K hK;(conv=>whnf);refine hK _ _ ?_;clear hK K)
 by_cases hlt:i<L.length
 ·have hx:L[i]?=some L[i]:=List.getElem?_eq_getElem hlt
  obtain ⟨c0,c1⟩:=hrow.get hx
  have hnx:=Tp.all_next (q:=ok) hx
  have hno:=fun h=>hgp (Tp.all_not (q:=ok) hx h)
  have hdn:=fun h=>hgd (Tp.dup_take hx h)
  have hdy:=fun h=>Tp.nodup_take hx hnd h
  have hsn:=Tp.seen_next (L.take i) L[i]
  have htk:L.take (i+1)=L.take i++[L[i]]:=by rw [List.take_add_one,hx];rfl
  have hlen:(L.take i).length=i:=by rw [List.length_take];omega
  have hokx:=hplok L[i]
  clear hgp hgd hyes hplok
  generalize L[i]=x at *
  have hso:=Tp.seen_ok (l:=L.take i)
  have hko:=Tp.plK_ok x
  by_cases hmem:x∈L.take i
  ·obtain ⟨j,hj,hf,hat⟩:=Tp.seen_at hnd hmem
   rw [hdn hmem]
   clear hno hdn hdy hnx hsn htk
   generalize Tp.seenL (L.take i)=M at *
   obtain ⟨a,p⟩:=x
   dsimp only at c0 c1
   have hso2:=qn (i:=j) (v:=.int .i64 (1+1)) hso hko
   have hf2:=nW (v:=.int .i64 (1+1)) hf
   repeat' first|((try intro K hK);((with_reducible refine bS 1 j (by kernel_rfl) (.own (j:=2) rfl) hso hf ?_);conv=>whnf))|((try intro K hK);((with_reducible refine iy (j:=2) 1 j (by kernel_rfl) rfl hso hf ?_);conv=>whnf))|((try intro K hK);((with_reducible refine iw (j:=2) rfl hat ?_);conv=>whnf))|((try intro K hK);((with_reducible refine bS (1+1) j (by kernel_rfl) (.own (j:=2) rfl) hso2 hf2 ?_);conv=>whnf))|(refine sxO ?_;try clear hK K)|refine sxW ?_ ?_<;>intro _|refine sxV ?_ ?_|(intro K hK _;conv=>whnf)|(intro _;conv=>whnf)
   all_goals exact ⟨rfl,F1,hle1,Qw.pre 1 rfl⟩
  ·have hfn:=Tp.seen_no hmem
   have hseen:(Tp.seenL (L.take i)).length=i:=by unfold Tp.seenL;rw [List.length_map];exact hlen
   rw [← htk] at hsn
   have hnd2:=hdy hmem
   clear hdn htk hdy
   generalize Tp.seenL (L.take i)=M at *
   obtain ⟨a,p⟩:=x
   dsimp only at c0 c1
   have hso2:=mF (v:=.int .i64 (0+1)) hso hko
   have hf2:=ga (v:=.int .i64 (0+1)) hfn
   have hso0:=mF (v:=.int .i64 0) hso hko
   have hf0:=ga (v:=.int .i64 0) hfn
   by_cases hok:ok (a,p)=true
   ·have hok2:=hok
    rw [hokx,decide_eq_true_eq] at hok2
    dsimp only at hok2
    repeat' first|((try intro K hK);((with_reducible refine fL (by kernel_rfl) (.own (j:=2) rfl) hso hfn ?_);conv=>whnf))|((try intro K hK);((with_reducible refine eb (j:=2) (by kernel_rfl) rfl hso hfn ?_);conv=>whnf))|((try intro K hK);((with_reducible refine eY (j:=2) rfl ?_);conv=>whnf))|((try intro K hK);((with_reducible refine bS (0+1) M.length (by kernel_rfl) (.own (j:=2) rfl) hso2 hf2 ?_);conv=>whnf))|((try intro K hK);((with_reducible refine bS 0 M.length (by kernel_rfl) (.own (j:=2) rfl) hso0 hf0 ?_);conv=>whnf))|(refine sxO ?_;try clear hK K)|refine sxW ?_ ?_<;>intro _|refine sxV ?_ ?_|(intro K hK _;conv=>whnf)|(intro _;conv=>whnf)
    all_goals
     refine aC (i+1) ⟨hlt,by rw [hnx,hal,hok];rfl,hnd2⟩ (by omega) ?_ (Qw.pre 3 ?_)
     ·exact aD
     ·rw [hsn];rfl
   ·have hok:ok (a,p)=false:=by simpa using hok
    rw [hno hok]
    have hok2:=hok
    rw [hokx,decide_eq_false_iff_not] at hok2
    dsimp only at hok2
    repeat' first|((try intro K hK);((with_reducible refine fL (by kernel_rfl) (.own (j:=2) rfl) hso hfn ?_);conv=>whnf))|((try intro K hK);((with_reducible refine eb (j:=2) (by kernel_rfl) rfl hso hfn ?_);conv=>whnf))|((try intro K hK);((with_reducible refine eY (j:=2) rfl ?_);conv=>whnf))|((try intro K hK);((with_reducible refine bS (0+1) M.length (by kernel_rfl) (.own (j:=2) rfl) hso2 hf2 ?_);conv=>whnf))|((try intro K hK);((with_reducible refine bS 0 M.length (by kernel_rfl) (.own (j:=2) rfl) hso0 hf0 ?_);conv=>whnf))|(refine sxO ?_;try clear hK K)|refine sxW ?_ ?_<;>intro _|refine sxV ?_ ?_|(intro K hK _;conv=>whnf)|(intro _;conv=>whnf)
    all_goals first
     | exact ⟨rfl,F1,hle1,Qw.pre 1 rfl⟩
     | (exfalso;omega)
 ·have hil:i=L.length:=by omega
  subst hil
  rw [List.take_length] at hal hnd
  rw [hyes hal hnd]
  repeat' first|(refine sxZ ?_;try clear hK K)|refine sxW ?_ ?_<;>intro _|(intro K hK _;conv=>whnf)
  all_goals exact ⟨rfl,F1,hle1,Qw.pre 1 rfl⟩
end Go.Proofs.YtmehinfgdcmmjaaGreatDoor
