import Derived.Test.YtmehinfgdcmmjaaGreatJ18
import Derived.Test.YtmehinfgdcmmjaaGreatJ11
import Derived.Test.YtmehinfgdcmmjaaGreatJ25
import Derived.Test.YtmehinfgdcmmjaaGreatJ17
namespace Go.Proofs.YtmehinfgdcmmjaaGreat
open Go.Sx
set_option maxRecDepth 20000
set_option linter.unusedVariables false
namespace Tp
abbrev Pl:=Int × Int
def lkP (x:Lk):List Pl:=[(x.a,x.pa),(x.b,x.pb)]
def hsP (x:Hs):Pl:=(x.at_,x.port)
def places (t:T):List Pl:=t.ls.flatMap lkP++t.hs.map hsP
def lkOk (x:Lk):Bool:=decide (¬ x.a=x.b∧1≤x.least∧x.least≤x.most∧x.most≤1000)
def plOk (t:T) (q:Pl):Bool:=decide ((0≤q.1∧q.1<t.n)∧0≤q.2∧q.2<8)
def bounds (t:T):Bool:=decide ((1≤t.n∧t.n≤8)∧t.ls.length≤24∧t.hs.length≤8)
def right (t:T):Bool:=bounds t&&(t.ls.all lkOk&&((places t).all (plOk t)&&decide (places t).Nodup))
theorem all_next {α:Type} {q:α→Bool} {l:List α} {k:Nat} {x:α} (hx:l[k]?=some x):(l.take (k+1)).all q=((l.take k).all q&&q x):=by
 rw [List.take_add_one,hx,List.all_append]
 simp
theorem all_not {α:Type} {q:α→Bool} {l:List α} {k:Nat} {x:α} (hx:l[k]?=some x) (h:q x=false):l.all q=false:=by
 rw [List.all_eq_false]
 exact ⟨x,List.mem_of_getElem? hx,by rw [h];simp⟩
theorem right_bounds {t:T} (h:bounds t=false):right t=false:=by unfold right;rw [h];rfl
theorem right_lk {t:T} (h:t.ls.all lkOk=false):right t=false:=by unfold right;rw [h];simp
theorem right_pl {t:T} (h:(places t).all (plOk t)=false):right t=false:=by unfold right;rw [h];simp
theorem right_dup {t:T} (h:¬ (places t).Nodup):right t=false:=by unfold right;rw [decide_eq_false h];simp
theorem right_ok {t:T} (h:bounds t=true) (h2:t.ls.all lkOk=true) (h3:(places t).all (plOk t)=true) (h4:(places t).Nodup):right t=true:=by unfold right;rw [h,h2,h3,decide_eq_true h4];rfl
theorem nodup_take {l:List Pl} {k:Nat} {x:Pl} (hx:l[k]?=some x) (h:(l.take k).Nodup) (hno:x ∉ l.take k):(l.take (k+1)).Nodup:=by
 rw [List.take_add_one,hx]
 exact List.nodup_append.2 ⟨h,by simp,fun a ha b hb e=>by simp at hb;subst hb;subst e;exact hno ha⟩
theorem dup_take {l:List Pl} {k:Nat} {x:Pl} (hx:l[k]?=some x) (h:x∈l.take k):¬ l.Nodup:=fun hn=>by
 have h2:(l.take (k+1)).Nodup:=hn.sublist (List.take_sublist ..)
 rw [List.take_add_one,hx] at h2
 exact (List.nodup_append.1 h2).2.2 x h x (by simp) rfl
theorem places_len (t:T):(places t).length=2*t.ls.length+t.hs.length:=by
 unfold places
 rw [List.length_append,List.length_map]
 congr 1
 induction t.ls with
 | nil=>rfl
 | cons x l ih=>rw [List.flatMap_cons,List.length_append,ih,List.length_cons];show 2+_=_;omega
end Tp
set_option linter.unusedSimpArgs false
set_option maxHeartbeats 4000000
namespace Tp
def plV (x:Pl):List Value:=[.int .i64 x.1,.int .i64 x.2]
def plC (ps:List Pl):List AV:=ps.flatMap fun x=>[.int .i64 x.1,.int .i64 x.2]
abbrev PRow (F:Heap) (v:Value) (l:List Pl):Prop:=aH F 2 (fun x us=>us=plV x) v l
theorem plC_len (ps:List Pl):(plC ps).length=ps.length*2:=by
 induction ps with
 | nil=>rfl
 | cons p ps ih=>unfold plC at *;rw [List.flatMap_cons,List.length_append,ih];simp only [List.length_cons,List.length_nil];omega
theorem plC_next (ps:List Pl) (p:Pl):plC (ps++[p])=plC ps++[.int .i64 p.1,.int .i64 p.2]:=by unfold plC;rw [List.flatMap_append];simp
theorem plC_next2 (ps:List Pl) (p q:Pl):plC (ps++[p,q])=plC ps++[.int .i64 p.1,.int .i64 p.2,.int .i64 q.1,.int .i64 q.2]:=by unfold plC;rw [List.flatMap_append];simp
theorem plC_den (ps:List Pl):denL (plC ps)=ps.flatMap plV:=by
 induction ps with
 | nil=>rfl
 | cons p ps ih=>unfold plC at *;rw [List.flatMap_cons,List.flatMap_cons,aQ,ih];rfl
theorem PRow.get {F:Heap} {v:Value} {l:List Pl} (h:PRow F v l) {i:Nat} {x:Pl} (hx:l[i]?=some x) :
  F.c ((addrOf v).add (i*2)) (.int .i64 x.1)∧F.c ((addrOf v).add (i*2+1)) (.int .i64 x.2):=by
 obtain ⟨us,rfl,_,h2⟩:=h.at_ i x hx
 simp only [plV,CellsF,Nat.add_assoc,Nat.reduceAdd] at h2
 obtain ⟨c0,c1,_⟩:=h2
 exact ⟨c0,c1⟩
def plK (x:Pl):Value:=.agg #[.int .i64 x.1,.int .i64 x.2]
theorem plK_inj {x y:Pl} (h:plK x=plK y):x=y:=by
 obtain ⟨a,b⟩:=x
 obtain ⟨c,d⟩:=y
 unfold plK at h
 injection h with h
 simp at h
 rw [h.1,h.2]
def seenL (l:List Pl):List (Value × Value):=l.map fun x=>(plK x,.int .i64 1)
theorem seen_next (l:List Pl) (x:Pl):seenL (l++[x])=seenL l++[(plK x,.int .i64 1)]:=by unfold seenL;rw [List.map_append];rfl
def plOkV (v:Value):Prop:=∃ l:List Int,l.length=2∧v=gp l
theorem plK_ok (x:Pl):plOkV (plK x):=⟨[x.1,x.2],rfl,rfl⟩
theorem seen_ok {l:List Pl}:∀ q∈seenL l,plOkV q.1:=fun q hq=>by
 obtain ⟨x,_,rfl⟩:=List.mem_map.1 hq
 exact plK_ok x
theorem seen_no {l:List Pl} {x:Pl} (h:x ∉ l):∀ q∈seenL l,q.1≠plK x:=fun q hq e=>by
 obtain ⟨y,hy,rfl⟩:=List.mem_map.1 hq
 exact h (plK_inj e ▸ hy)
theorem seen_at {l:List Pl} {x:Pl} (hn:l.Nodup) (h:x∈l):∃ i,i<l.length∧bV (seenL l) (plK x) (some (i,.int .i64 1))∧(seenL l)[i]?=some (plK x,.int .i64 1):=by
 obtain ⟨i,hi,rfl⟩:=List.getElem_of_mem h
 have e:(seenL l)[i]?=some (plK l[i],.int .i64 1):=by unfold seenL;rw [List.getElem?_map,List.getElem?_eq_getElem hi];rfl
 refine ⟨i,hi,⟨e,fun j q hj hq=>?_⟩,e⟩
 unfold seenL at hq
 rw [List.getElem?_map,List.getElem?_eq_getElem (by omega)] at hq
 simp only [Option.map_some,Option.some.injEq] at hq
 subst hq
 intro he
 have:=(List.getElem_inj hn).1 (plK_inj he)
 omega
end Tp
theorem jN:fM Tryz.prog 142 Tp.plOkV:=fM.ints (by kernel_rfl) (by kernel_rfl) (by kernel_rfl)
theorem jQ (a p:Int):(AV.agg [.int .i64 a,.int .i64 p]).den=Tp.plK (a,p):=eY [a,p]
theorem eX (b:Nat):(AV.raw (Value.map (some b))).den = .map (some b):=by rw [AV.den]
section
variable {t:TypeId} {m:List Blk} {K:AV→List Blk→Prop} {b j:Nat} {M:List (Value × Value)} {a p:Int}
theorem fe (hu:Tryz.prog.underlying t=some (.map 142 3)) (hb:bW m b M) (hM:∀ q∈M,Tp.plOkV q.1) (hn:∀ q∈M,q.1≠Tp.plK (a,p)) (hK:K (.int .i64 0) m) :
  NMap Tryz.prog (Instr.lookup t (AV.raw (Value.map (some b))).den (AV.agg [.int .i64 a,.int .i64 p]).den false) m K:=by
 rw [jQ,eX]
 exact NMap.look_none (z:=.int .i64 0) hu (by kernel_rfl) jN hb hM (Tp.plK_ok _) hn hK
theorem bd (v:Int) (i:Nat) (hu:Tryz.prog.underlying t=some (.map 142 3)) (hb:bW m b M) (hM:∀ q∈M,Tp.plOkV q.1) (hi:bV M (Tp.plK (a,p)) (some (i,.int .i64 v))) (hK:K (.int .i64 v) m) :
  NMap Tryz.prog (Instr.lookup t (AV.raw (Value.map (some b))).den (AV.agg [.int .i64 a,.int .i64 p]).den false) m K:=by
 rw [jQ,eX]
 exact NMap.look_some (x:=.int .i64 v) hu jN hb hM (Tp.plK_ok _) hi (by rw [AV.den]) hK
theorem fI (hu:Tryz.prog.underlying t=some (.map 142 3)) (hj:m[j]?=some (aa b M)) (hM:∀ q∈M,Tp.plOkV q.1) (hn:∀ q∈M,q.1≠Tp.plK (a,p)) (hK:setBlkK m j (aa b (M++[(Tp.plK (a,p),.int .i64 0)])) (K (.tup [.int .i64 0,.int .i64 M.length]))) :
  NMap Tryz.prog (Instr.mapEntry t (AV.raw (Value.map (some b))).den (AV.agg [.int .i64 a,.int .i64 p]).den) m K:=by
 rw [jQ,eX]
 refine NMap.entry_new (z:=.int .i64 0) hu (by kernel_rfl) jN hj hM (Tp.plK_ok _) hn ?_
 rw [AV.den]
 exact hK
theorem jP (v:Int) (i:Nat) (hu:Tryz.prog.underlying t=some (.map 142 3)) (hj:m[j]?=some (aa b M)) (hM:∀ q∈M,Tp.plOkV q.1) (hi:bV M (Tp.plK (a,p)) (some (i,.int .i64 v))) (hK:setBlkK m j (aa b M) (K (.tup [.int .i64 v,.int .i64 i]))) :
  NMap Tryz.prog (Instr.mapEntry t (AV.raw (Value.map (some b))).den (AV.agg [.int .i64 a,.int .i64 p]).den) m K:=by
 rw [jQ,eX]
 exact NMap.entry_old (x:=.int .i64 v) hu jN hj hM (Tp.plK_ok _) hi (by rw [AV.den]) hK
theorem hZ {k v:Value} (hn:∀ q∈M,q.1≠k):bV (M++[(k,v)]) k (some (M.length,v)):=by
 refine ⟨by simp,fun j q hj hq=>?_⟩
 rw [List.getElem?_append_left hj] at hq
 exact hn q (List.mem_of_getElem? hq)
theorem nq {k v v0:Value} {i:Nat} (hi:bV M k (some (i,v0))):bV (M.set i (k,v)) k (some (i,v)):=by
 have hlt:=(List.getElem?_eq_some_iff.1 hi.1).1
 refine ⟨by simp [hlt],fun j q hj hq=>?_⟩
 rw [List.getElem?_set_ne (by omega)] at hq
 exact hi.2 j q hj hq
theorem fH {k v0:Value} {v:Int} (hj:m[j]?=some (aa b (M++[(k,v0)]))) (hK:setBlkK m j (aa b (M++[(k,.int .i64 v)])) (K (.raw undef))) :
  NMap Tryz.prog (do Instr.entryStore t (AV.raw (Value.map (some b))).den (AV.int IntKind.i64 M.length).den (AV.int IntKind.i64 v).den;pure undef) m K:=by
 rw [eX,AV.den,AV.den]
 refine NMap.entry_store (k:=k) (v0:=v0) hj (by simp) ?_
 rw [List.set_append_right _ _ (Nat.le_refl _),Nat.sub_self]
 exact hK
theorem jO {k v0:Value} {v:Int} {i:Nat} (hj:m[j]?=some (aa b M)) (hi:M[i]?=some (k,v0)) (hK:setBlkK m j (aa b (M.set i (k,.int .i64 v))) (K (.raw undef))) :
  NMap Tryz.prog (do Instr.entryStore t (AV.raw (Value.map (some b))).den (AV.int IntKind.i64 i).den (AV.int IntKind.i64 v).den;pure undef) m K:=by
 rw [eX,AV.den,AV.den]
 exact NMap.entry_store hj hi hK
theorem mY {k v:Value} (hM:∀ q∈M,Tp.plOkV q.1) (hk:Tp.plOkV k):∀ q∈M++[(k,v)],Tp.plOkV q.1:=fun q hq=>by
 rcases List.mem_append.1 hq with h | h
 ·exact hM q h
 ·simp only [List.mem_singleton] at h;subst h;exact hk
theorem rK {k v:Value} {i:Nat} (hM:∀ q∈M,Tp.plOkV q.1) (hk:Tp.plOkV k):∀ q∈M.set i (k,v),Tp.plOkV q.1:=fun q hq=>by
 rcases List.mem_or_eq_of_mem_set hq with h | h
 ·exact hM q h
 ·subst h;exact hk
end
theorem lh (F:Heap) (t:Tp.T) (lv hv:Value) (ht:Tp.At F t lv hv) (hl:t.ls.length≤1000) (hh:t.hs.length≤1000):NCall Tryz.prog 72 [.agg (Tp.cs t lv hv)] [hpB F] fun r m=>∃ F' v,F.le F'∧Tp.PRow F' v (Tp.places t)∧r = .hs v (Tp.places t).length∧m=[hpB F']:=by
 refine Go.Sx.NCall.know (K:=fun r m=>∃ w,r.den=(AV.sl 1 w (Tp.places t).length).den∧MemFits m [hpB F,⟨addrOf w,Tp.plC (Tp.places t),.row w 142 2 (Tp.places t).length⟩]) ?_ fun r m' ⟨w,hr,hm⟩ ⟨W,hw⟩=>?_
 rotate_left
 ·have hok:=((hm W hw).1.row (List.mem_cons_of_mem _ (List.mem_cons_self ..))).1
  have hrow:=aJ (F:=F) (sz:=2) (enc:=Tp.plV) hok (Tp.plC_den _) (fun x _=>rfl)
  exact ⟨.hs w (Tp.places t).length,_,hr.symm,hm.trans (MemFits.freeze (m:=[])),_,w,addF.old,hrow,rfl,rfl⟩
 have hlo:=ht.l.ok
 have hho:=ht.h.ok
 obtain ⟨n,ls,hs⟩:=t
 unfold Tp.cs
 simp only at *
 have hpl:(Tp.places ⟨n,ls,hs⟩)=ls.flatMap Tp.lkP++hs.map Tp.hsP:=rfl
 generalize Tp.places ⟨n,ls,hs⟩=L at *
 refine aA Tryz.func72 rfl (by decide) ?_
 repeat' first|(refine sxZ ?_;try clear hK K)|refine sxW ?_ ?_<;>intro _|(intro K hK _;conv=>whnf)
 refine aD (α:=Value × Nat × List Tp.Pl) (fun (w,i,ps)=>i≤ls.length∧ps.length=2*i∧ps=(ls.take i).flatMap Tp.lkP) (fun (w,i,ps)=>[.k,.k,.k,.set (.sl 2 w ps.length),.k,.d,.k,.k,.k,.k,.k,.set (.int .i64 i),.d,.d,.d,.d,.d,.d,.d,.d,.d,.d,.d,.d,.d,.d,.d,.d,.d,.k,.k,.k,.k,.k,.k,.k,.k,.k,.k,.k,.k,.k,.k,.k,.k,.k])
  (fun (w,i,ps)=>[.k,.k,.set ⟨addrOf w,Tp.plC ps,.row w 142 2 ps.length⟩]) (fun (w,i,ps)=>ls.length - i) (.slice none 0 0,0,[]) ⟨Nat.zero_le _,rfl,rfl⟩ ?_ ((MemFits.nilRow _ 142 2).trans (MemFits.congr rfl)) ?_
 ·exact aC
 (intro ⟨w,i,ps⟩ ⟨hi,hpn,hps⟩;intro K hK;(conv=>whnf);refine hK _ _ ?_;clear hK K)
 dsimp only
 generalize hk:ps.length=k at *
 have hpcl:=Tp.plC_len ps
 by_cases hlt:i<ls.length
 ·have hx:ls[i]?=some ls[i]:=List.getElem?_eq_getElem hlt
  obtain ⟨c0,c1,c2,c3,c4,c5⟩:=ht.l.get hx
  have hnx:(ls.take (i+1)).flatMap Tp.lkP=ps++Tp.lkP ls[i]:=by rw [List.take_add_one,hx,List.flatMap_append,hps];simp
  generalize ls[i]=x at *
  have hn2:=Tp.plC_next2 ps (x.a,x.pa) (x.b,x.pb)
  generalize hpc:Tp.plC ps=pc at *
  obtain ⟨a,pa,b,pb,least,most⟩:=x
  repeat' first|(refine sxZ ?_;try clear hK K)|refine sxW ?_ ?_<;>intro _|(intro K hK _;conv=>whnf)
  all_goals
   rename_i v9
   refine aB (v9,i+1,ps++[(a,pa),(b,pb)]) ⟨hlt,by rw [List.length_append,hk,hpn];show 2*i+2=2*(i+1);omega,hnx.symm⟩ (show ls.length - (i+1)<ls.length - i by omega) ?_ (MemFits.pre 3 ?_)
   ·simp only [List.length_append,hk]
    exact aC
   ·simp only [autoM,List.take,List.length_append,hk,hn2]
    rw [show k+[((a,pa):Tp.Pl),(b,pb)].length=k+2 from rfl]
    rfl
 have hkl:i=ls.length:=by omega
 subst hkl
 rw [List.take_length] at hps
 have hps0:=hps
 generalize hpc:Tp.plC ps=pc at *
 repeat' first|(refine sxZ ?_;try clear hK K)|refine sxW ?_ ?_<;>intro _|(intro K hK _;conv=>whnf)
 subst hpc
 refine aD (α:=Value × Nat × List Tp.Pl) (fun (w,i,qs)=>i≤hs.length∧qs.length=k+i∧qs=ps++(hs.take i).map Tp.hsP) (fun (w,i,qs)=>[.k,.k,.k,.set (.sl 2 w qs.length),.k,.k,.k,.d,.k,.k,.k,.k,.k,.k,.k,.k,.k,.k,.k,.k,.k,.k,.k,.k,.k,.k,.k,.k,.k,.k,.k,.k,.set (.int .i64 i),.d,.d,.d,.d,.d,.d,.d,.d,.d,.d,.d,.d,.k])
  (fun (w,i,qs)=>[.k,.k,.set ⟨addrOf w,Tp.plC qs,.row w 142 2 qs.length⟩]) (fun (w,i,qs)=>hs.length - i) (w,0,ps) ⟨Nat.zero_le _,hk,by simp⟩ ?_ (MemFits.eq (by simp only [autoM,hk])) ?_
 ·simp only [hk]
  exact aC
 (intro ⟨w,i,qs⟩ ⟨hi,hqn,hqs⟩;intro K hK;(conv=>whnf);refine hK _ _ ?_;clear hK K)
 dsimp only
 generalize hk2:qs.length=k2 at *
 have hqcl:=Tp.plC_len qs
 by_cases hlt:i<hs.length
 ·have hx:hs[i]?=some hs[i]:=List.getElem?_eq_getElem hlt
  obtain ⟨c0,c1⟩:=ht.h.get hx
  have hnx:ps++(hs.take (i+1)).map Tp.hsP=qs++[Tp.hsP hs[i]]:=by rw [List.take_add_one,hx,List.map_append,hqs,List.append_assoc];rfl
  generalize hs[i]=x at *
  have hn2:=Tp.plC_next qs (x.at_,x.port)
  generalize hpc:Tp.plC qs=pc at *
  obtain ⟨at_,port⟩:=x
  repeat' first|(refine sxZ ?_;try clear hK K)|refine sxW ?_ ?_<;>intro _|(intro K hK _;conv=>whnf)
  all_goals
   rename_i v9
   refine aB (v9,i+1,qs++[(at_,port)]) ⟨hlt,(by rw [List.length_append,hk2,hqn]<;>rfl),hnx.symm⟩ (show hs.length - (i+1)<hs.length - i by omega) ?_ (MemFits.pre 3 ?_)
   ·simp only [List.length_append,hk2]
    exact aC
   ·simp only [autoM,List.take,List.length_append,hk2,hn2]
    rw [show k2+[((at_,port):Tp.Pl)].length=k2+1 from rfl]
    rfl
 have hkl:i=hs.length:=by omega
 subst hkl
 rw [List.take_length] at hqs
 rw [hpl,← hps0,← hqs,hk2]
 repeat' first|(refine sxZ ?_;try clear hK K)|refine sxW ?_ ?_<;>intro _|(intro K hK _;conv=>whnf)
 all_goals exact ⟨w,rfl,MemFits.pick [0,2] (by decide) rfl⟩
theorem gD (F:Heap) (t:Tp.T) (lv hv:Value) (ht:Tp.At F t lv hv) (hl:t.ls.length≤1000) (hh:t.hs.length≤1000):NCall Tryz.prog 43 [.agg (Tp.cs t lv hv)] [hpB F] fun r m=>r = .bool (Tp.right t)∧m=[hpB F]:=by
 refine NCall.fits (K:=fun r m=>r = .bool (Tp.right t)∧∃ F',F.le F'∧MemFits m [hpB F']) ?_ fun r m' ⟨h1,F',h2,h3⟩=>⟨r,_,rfl,h3.trans (MemFits.less h2 []),h1,rfl⟩
 have hlo:=ht.l.ok
 have hho:=ht.h.ok
 have cp:=(lh F t lv hv ht hl hh).mono (K':=fun r m=>∃ F' v,F.le F'∧Tp.PRow F' v (Tp.places t)∧SlOk v (Tp.places t).length∧r = .hs v (Tp.places t).length∧m=[hpB F']) fun r m ⟨F',v,h1,h2,h3,h4⟩=>⟨F',v,h1,h2,h2.ok,h3,h4⟩
 have hpn:=Tp.places_len t
 by_cases hb:Tp.bounds t=true
 rotate_left
 ·have hb:Tp.bounds t=false:=by simpa using hb
  rw [Tp.right_bounds hb]
  unfold Tp.bounds at hb
  rw [decide_eq_false_iff_not] at hb
  clear ht cp hpn
  obtain ⟨n,ls,hs⟩:=t
  unfold Tp.cs
  simp only at *
  generalize ls.length=a at *
  generalize hs.length=b at *
  refine aA Tryz.func43 rfl (by decide) ?_
  repeat' first|(refine sxZ ?_;try clear hK K)|refine sxW ?_ ?_<;>intro _|(intro K hK _;conv=>whnf)
  all_goals exact ⟨rfl,F,F.le_refl,MemFits.pre 1 rfl⟩
 have hbd:=hb
 unfold Tp.bounds at hbd
 rw [decide_eq_true_eq] at hbd
 have hgo:∀ (q:Bool),t.ls.all Tp.lkOk=false→Tp.right t=false:=fun _ h=>Tp.right_lk h
 have hgp:(Tp.places t).all (Tp.plOk t)=false→Tp.right t=false:=Tp.right_pl
 have hgd:¬ (Tp.places t).Nodup→Tp.right t=false:=Tp.right_dup
 have hyes:=Tp.right_ok (t:=t) hb
 generalize Tp.right t=R at *
 obtain ⟨n,ls,hs⟩:=t
 unfold Tp.cs at *
 simp only at *
 refine aA Tryz.func43 rfl (by decide) ?_
 repeat' first|(refine sxZ ?_;try clear hK K)|refine sxW ?_ ?_<;>intro _|(intro K hK _;conv=>whnf)
 refine aD (α:=Nat) (fun i=>i≤ls.length∧(ls.take i).all Tp.lkOk=true) (fun i=>[.k,.k,.set (.bool false),.k,.d,.k,.k,.k,.k,.k,.k,.k,.k,.k,.k,.k,.k,.k,.k,.k,.k,.k,.k,.k,.k,.k,.k,.k,.k,.k,.k,.set (.int .i64 i),.d,.d,.d,.d,.d,.d,.d,.d,.d,.d,.d,.d,.d,.d,.d,.d,.d,.d,.d,.d,.d,.d,.d,.d,.d,.d,.k,.k,.k,.k,.k,.k,.k,.k,.k,.k,.k,.k,.k,.k,.k,.k,.k,.k,.k,.k,.k,.k,.k,.k,.k,.k,.k,.k,.k,.k,.k,.k,.k,.k,.k,.k,.k,.k,.k,.k,.k]) (fun _=>[]) (fun i=>ls.length - i) 0 ⟨Nat.zero_le _,rfl⟩ ?_ (MemFits.eq rfl) ?_
 ·exact aC
 (intro i ⟨hi,hall⟩;intro K hK;(conv=>whnf);refine hK _ _ ?_;clear hK K)
 by_cases hlt:i<ls.length
 ·have hx:ls[i]?=some ls[i]:=List.getElem?_eq_getElem hlt
  obtain ⟨c0,c1,c2,c3,c4,c5⟩:=ht.l.get hx
  have hnx:=Tp.all_next (q:=Tp.lkOk) hx
  have hno:=fun h=>hgo true (Tp.all_not (q:=Tp.lkOk) hx h)
  clear hgo hgp hgd hyes cp
  generalize ls[i]=x at *
  obtain ⟨a,pa,b,pb,least,most⟩:=x
  dsimp only at c0 c1 c2 c3 c4 c5
  by_cases hk:Tp.lkOk ⟨a,pa,b,pb,least,most⟩=true
  ·have hk2:=hk
   unfold Tp.lkOk at hk2
   rw [decide_eq_true_eq] at hk2
   simp only at hk2
   repeat' first|(refine sxZ ?_;try clear hK K)|refine sxW ?_ ?_<;>intro _|(intro K hK _;conv=>whnf)
   refine aB (i+1) ⟨hlt,by rw [hnx,hall,hk];rfl⟩ (by omega) ?_ (MemFits.pre 2 rfl)
   exact aC
  ·have hk:Tp.lkOk ⟨a,pa,b,pb,least,most⟩=false:=by simpa using hk
   rw [hno hk]
   have hk2:=hk
   unfold Tp.lkOk at hk2
   rw [decide_eq_false_iff_not] at hk2
   simp only at hk2
   repeat' first|(refine sxZ ?_;try clear hK K)|refine sxW ?_ ?_<;>intro _|(intro K hK _;conv=>whnf)
   all_goals first
    | exact ⟨rfl,F,F.le_refl,MemFits.pre 1 rfl⟩
    | (exfalso;omega)
 have hkl:i=ls.length:=by omega
 subst hkl
 rw [List.take_length] at hall
 have hyes:=hyes hall
 clear hgo
 clear hpn
 have hpln:(Tp.places ⟨n,ls,hs⟩).length≤100:=by rw [Tp.places_len];show 2*ls.length+hs.length≤100;omega
 have hplok:∀ q,Tp.plOk ⟨n,ls,hs⟩ q=decide ((0≤q.1∧q.1<n)∧0≤q.2∧q.2<8):=fun q=>rfl
 generalize Tp.places ⟨n,ls,hs⟩=L at *
 generalize Tp.plOk ⟨n,ls,hs⟩=ok at *
 repeat' first|((try intro K hK);(with_reducible refine gC ?_);(refine cN [0] cp ?_;rintro _ _ ⟨F1,v1,hle1,hrow,hok1,rfl,rfl⟩;refine cR ?_))|((try intro K hK);((with_reducible refine eH ?_);refine NMap.make fun b=>?_;conv=>whnf))|(refine sxZ ?_;try clear hK K)|refine sxW ?_ ?_<;>intro _|(intro K hK _;conv=>whnf)|(intro _;conv=>whnf)
 refine aD (α:=Nat) (fun i=>i≤L.length∧(L.take i).all ok=true∧(L.take i).Nodup) (fun i=>[.k,.k,.set (.bool false),.k,.k,.k,.k,.d,.k,.k,.k,.k,.k,.k,.k,.k,.k,.k,.k,.k,.k,.k,.k,.k,.k,.k,.k,.k,.k,.k,.k,.k,.k,.k,.k,.k,.k,.k,.k,.k,.k,.k,.k,.k,.k,.k,.k,.k,.k,.k,.k,.k,.k,.k,.k,.k,.k,.k,.k,.k,.k,.k,.set (.int .i64 i),.d,.d,.d,.d,.d,.d,.d,.d,.d,.d,.d,.d,.d,.d,.d,.d,.d,.d,.d,.d,.d,.d,.d,.d,.d,.d,.d,.d,.d,.d,.d,.d,.d,.d,.d,.d]) (fun i=>[.k,.k,.set (aa b (Tp.seenL (L.take i)))]) (fun i=>L.length - i) 0 ⟨Nat.zero_le _,rfl,by simp⟩ ?_ ?_ ?_
 ·exact aC
 ·exact MemFits.eq rfl
 (intro i ⟨hi,hal,hnd⟩;intro K hK;(conv=>whnf);refine hK _ _ ?_;clear hK K)
 by_cases hlt:i<L.length
 ·have hx:L[i]?=some L[i]:=List.getElem?_eq_getElem hlt
  obtain ⟨c0,c1⟩:=hrow.get hx
  have hnx:=Tp.all_next (q:=ok) hx
  have hno:=fun h=>hgp (Tp.all_not (q:=ok) hx h)
  have hdn:=fun h=>hgd (Tp.dup_take hx h)
  have hdy:=fun h=>Tp.nodup_take hx hnd h
  have hsn:=Tp.seen_next (L.take i) L[i]
  have htk:L.take (i+1)=L.take i++[L[i]]:=by rw [List.take_add_one,hx];rfl
  have hlen:(L.take i).length=i:=by rw [List.length_take];omega
  have hokx:=hplok L[i]
  clear hgp hgd hyes hplok
  generalize L[i]=x at *
  have hso:=Tp.seen_ok (l:=L.take i)
  have hko:=Tp.plK_ok x
  by_cases hmem:x∈L.take i
  ·obtain ⟨j,hj,hf,hat⟩:=Tp.seen_at hnd hmem
   rw [hdn hmem]
   clear hno hdn hdy hnx hsn htk
   generalize Tp.seenL (L.take i)=M at *
   obtain ⟨a,p⟩:=x
   dsimp only at c0 c1
   have hso2:=rK (i:=j) (v:=.int .i64 (1+1)) hso hko
   have hf2:=nq (v:=.int .i64 (1+1)) hf
   repeat' first|((try intro K hK);((with_reducible refine bd 1 j (by kernel_rfl) (.own (j:=2) rfl) hso hf ?_);conv=>whnf))|((try intro K hK);((with_reducible refine jP (j:=2) 1 j (by kernel_rfl) rfl hso hf ?_);conv=>whnf))|((try intro K hK);((with_reducible refine jO (j:=2) rfl hat ?_);conv=>whnf))|((try intro K hK);((with_reducible refine bd (1+1) j (by kernel_rfl) (.own (j:=2) rfl) hso2 hf2 ?_);conv=>whnf))|(refine sxO ?_;try clear hK K)|refine sxW ?_ ?_<;>intro _|refine sxV ?_ ?_|(intro K hK _;conv=>whnf)|(intro _;conv=>whnf)
   all_goals exact ⟨rfl,F1,hle1,MemFits.pre 1 rfl⟩
  ·have hfn:=Tp.seen_no hmem
   have hseen:(Tp.seenL (L.take i)).length=i:=by unfold Tp.seenL;rw [List.length_map];exact hlen
   rw [← htk] at hsn
   have hnd2:=hdy hmem
   clear hdn htk hdy
   generalize Tp.seenL (L.take i)=M at *
   obtain ⟨a,p⟩:=x
   dsimp only at c0 c1
   have hso2:=mY (v:=.int .i64 (0+1)) hso hko
   have hf2:=hZ (v:=.int .i64 (0+1)) hfn
   have hso0:=mY (v:=.int .i64 0) hso hko
   have hf0:=hZ (v:=.int .i64 0) hfn
   by_cases hok:ok (a,p)=true
   ·have hok2:=hok
    rw [hokx,decide_eq_true_eq] at hok2
    dsimp only at hok2
    repeat' first|((try intro K hK);((with_reducible refine fe (by kernel_rfl) (.own (j:=2) rfl) hso hfn ?_);conv=>whnf))|((try intro K hK);((with_reducible refine fI (j:=2) (by kernel_rfl) rfl hso hfn ?_);conv=>whnf))|((try intro K hK);((with_reducible refine fH (j:=2) rfl ?_);conv=>whnf))|((try intro K hK);((with_reducible refine bd (0+1) M.length (by kernel_rfl) (.own (j:=2) rfl) hso2 hf2 ?_);conv=>whnf))|((try intro K hK);((with_reducible refine bd 0 M.length (by kernel_rfl) (.own (j:=2) rfl) hso0 hf0 ?_);conv=>whnf))|(refine sxO ?_;try clear hK K)|refine sxW ?_ ?_<;>intro _|refine sxV ?_ ?_|(intro K hK _;conv=>whnf)|(intro _;conv=>whnf)
    all_goals
     refine aB (i+1) ⟨hlt,by rw [hnx,hal,hok];rfl,hnd2⟩ (by omega) ?_ (MemFits.pre 3 ?_)
     ·exact aC
     ·rw [hsn];rfl
   ·have hok:ok (a,p)=false:=by simpa using hok
    rw [hno hok]
    have hok2:=hok
    rw [hokx,decide_eq_false_iff_not] at hok2
    dsimp only at hok2
    repeat' first|((try intro K hK);((with_reducible refine fe (by kernel_rfl) (.own (j:=2) rfl) hso hfn ?_);conv=>whnf))|((try intro K hK);((with_reducible refine fI (j:=2) (by kernel_rfl) rfl hso hfn ?_);conv=>whnf))|((try intro K hK);((with_reducible refine fH (j:=2) rfl ?_);conv=>whnf))|((try intro K hK);((with_reducible refine bd (0+1) M.length (by kernel_rfl) (.own (j:=2) rfl) hso2 hf2 ?_);conv=>whnf))|((try intro K hK);((with_reducible refine bd 0 M.length (by kernel_rfl) (.own (j:=2) rfl) hso0 hf0 ?_);conv=>whnf))|(refine sxO ?_;try clear hK K)|refine sxW ?_ ?_<;>intro _|refine sxV ?_ ?_|(intro K hK _;conv=>whnf)|(intro _;conv=>whnf)
    all_goals first
     | exact ⟨rfl,F1,hle1,MemFits.pre 1 rfl⟩
     | (exfalso;omega)
 ·have hil:i=L.length:=by omega
  subst hil
  rw [List.take_length] at hal hnd
  rw [hyes hal hnd]
  repeat' first|(refine sxZ ?_;try clear hK K)|refine sxW ?_ ?_<;>intro _|(intro K hK _;conv=>whnf)
  all_goals exact ⟨rfl,F1,hle1,MemFits.pre 1 rfl⟩
set_option maxHeartbeats 16000000
namespace Tr
end Tr
set_option maxHeartbeats 4000000
end Go.Proofs.YtmehinfgdcmmjaaGreat
