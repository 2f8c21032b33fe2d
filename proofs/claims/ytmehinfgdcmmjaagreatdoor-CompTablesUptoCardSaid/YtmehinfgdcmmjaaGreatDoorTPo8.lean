/- A part of the proof. -/
import Derived.Test.YtmehinfgdcmmjaaGreatDoorTJ4
import Derived.Test.YtmehinfgdcmmjaaGreatDoorTJ8
import Derived.Test.YtmehinfgdcmmjaaGreatDoorTJ11
namespace Go.Proofs.YtmehinfgdcmmjaaGreatDoor
open Go.Sx
set_option maxRecDepth 20000
set_option linter.unusedSimpArgs false
set_option linter.unusedVariables false
set_option maxHeartbeats 4000000
namespace Po
structure L where
 x:T
 pu:Value
 u:Value
def psC (ps:List L):List AV:=ps.flatMap fun p=>cs p.x p.pu p.u
def psV (p:L):List Value:=denL (cs p.x p.pu p.u)
theorem psC_den:∀ ps,denL (psC ps)=ps.flatMap psV
 | []=>rfl
 | p::ps=>by
  have:=psC_den ps
  unfold psC at *
  rw [List.flatMap_cons,List.flatMap_cons,aS,this]
  rfl
theorem psC_len (ps:List L):(psC ps).length=ps.length*8:=by
 induction ps with
 | nil=>rfl
 | cons p ps ih =>
  unfold psC at *
  rw [List.flatMap_cons,List.length_append,ih,List.length_cons]
  show 8+_=_
  omega
theorem psC_next (ps:List L) (p:L):psC (ps++[p])=psC ps++cs p.x p.pu p.u:=by
 unfold psC
 rw [List.flatMap_append]
 simp
def Got (F:Heap) (t:TypeId) (X:T) (v:AV) (m:List Blk):Prop :=
 ∃ G pu u,∃ ps:List L,F.le G∧ps.map (·.x)=X.l∧(∀ p∈ps,At G p.x p.pu p.u)∧Pd.Row G pu X.p.l∧v.den=(AV.agg (cs X pu u)).den∧Qw m [hpB G,⟨addrOf u,psC ps,.row u t 8 ps.length⟩]
theorem row_of {G:Heap} {u:Value} {ps:List L} (h:aI G 8 (fun p vs=>vs=psV p) u ps) (hall:∀ p∈ps,At G p.x p.pu p.u):Row G u (ps.map (·.x)):=by
 refine ⟨by rw [List.length_map];exact h.ok,fun k x hx=>?_⟩
 rw [List.getElem?_map] at hx
 cases hp:ps[k]? with
 | none=>rw [hp] at hx;cases hx
 | some p =>
  rw [hp] at hx
  simp only [Option.map_some,Option.some.injEq] at hx
  subst hx
  obtain ⟨vs,h1,h2,h3⟩:=h.at_ k p hp
  have hr:=hall p (List.mem_of_getElem? hp)
  refine ⟨vs,?_,h2,h3⟩
  obtain ⟨A,cap,hv,hle,hz⟩:=hr.l.ok
  obtain ⟨pA,pcap,hpv,hple,hpz⟩:=hr.p.ok
  rw [h1]
  obtain ⟨x,pw,w⟩:=p
  dsimp only at hv hpv hr ⊢
  subst hv hpv
  exact R.of hr
abbrev Lays (F:Heap) (X:T) (r:AV) (m:List Blk):Prop:=∃ F' pu u,F.le F'∧At F' X pu u∧r = .agg (cs X pu u)∧m=[hpB F']
theorem got_know {f:FuncId} {args:List AV} {F:Heap} {t:TypeId} {m:List Blk} {X:T} (h:Qz Tryz.prog f args m fun v m'=>Got F t X v m') :
  Qz Tryz.prog f args m fun v m'=>Lays F X v m':=by
 refine Go.Sx.Qz.know h fun r m' ⟨G,pu,u,ps,hle,hmap,hall,hpr,hr,hm⟩ ⟨w,hw⟩=>?_
 have hok:=((hm w hw).1.row (List.mem_cons_of_mem _ (List.mem_cons_self ..))).1
 have hrow:=aM (F:=G) (sz:=8) (enc:=psV) hok (psC_den ps) (fun x _=>rfl)
 refine ⟨_,_,hr.symm,hm.trans (Qw.freeze (m:=[])),_,pu,u,hle.trans addF.old,⟨Pd.Row.mono addF.old hpr,?_⟩,rfl,rfl⟩
 rw [← hmap]
 exact row_of hrow fun p hp=>At.mono addF.old (hall p hp)
end Po
theorem kF:∀ (n:Nat) (F:Heap) (x:Po.T) (pu u:Value),Po.tot x≤n→Po.tot x≤1466015503701→Po.At F x pu u →
  Qz Tryz.prog 10 [.agg (Po.cs x pu u)] [hpB F] fun r m=>Po.Lays F x r m
 | 0,F,x,pu,u,hn,_,_=>absurd (Po.tot_pos x) (by omega)
 | n+1,F,⟨k,p,f,v,l⟩,pu,u,hn,hs,hx=>by
  refine Po.got_know (t:=42) ?_
  have hu:Po.Row F u l:=hx.l
  have hpu:Pd.Row F pu p.l:=hx.p
  have hok:=hu.ok
  have hpok:=hpu.ok
  have e2:=Po.tot_mk k p f v l
  have hll:=Po.length_le l
  have ih:∀ G,∀ y∈l,∀ pw w,Po.At G y pw w→Qz Tryz.prog 10 [.agg (Po.cs y pw w)] [hpB G] fun r m=>Po.Lays G y r m:=fun G y hy pw w hw=>kF n G y pw w (by have:=Po.tot_lt (k:=k) (q:=p) (f:=f) (v:=v) hy;omega) (by have:=Po.tot_lt (k:=k) (q:=p) (f:=f) (v:=v) hy;omega) hw
  have cp:=kG _ F p pu (Nat.le_refl _) (by omega) hpu
  have hln:l.length≤1466015503701:=by omega
  clear hx hs hn e2 hll
  rw [aY]
  obtain ⟨pk,pf,pv,pl⟩:=p
  simp only [Pd.Lays,pd_cs,Pd.T.k,Pd.T.f,Pd.T.v,Pd.T.l] at *
  refine aB Tryz.func10 rfl (by decide) ?_
  repeat' first|(intro K hK;(with_reducible refine gC ?_);(refine cN [0] cp ?_;rintro _ _ ⟨F1,pu1,hle1,hpu1,rfl,rfl⟩;refine cR ?_))|(refine aJ [0,3] ?_;try clear hK K)|refine sxW ?_ ?_<;>intro _|refine aK ?_ ?_|(intro K hK _;conv=>whnf)
  all_goals
   have hpok1:=hpu1.ok
   refine aE (α:=Heap × Value × List Po.L) (fun (G,w,ps)=>F1.le G∧ps.map (·.x)=l.take ps.length∧ps.length≤l.length∧∀ p∈ps,Po.At G p.x p.pu p.u) (fun (G,w,ps)=>[.k,.k,.k,.k,.set (.int .i64 ps.length),.k,.k,.k,.k,.k,.k,.k,.k,.k,.k,.d,.d,.d,.d,.d,.d,.d,.d,.d,.d,.d,.d,.d,.d,.d,.d,.d,.d,.k])
    (fun (G,w,ps)=>[.set (hpB G),.k,.k,.cells [.int .i64 k,.int .i64 pk,.int .i64 pf,.int .i64 pv,.hs pu1 pl.length,.int .i64 f,.int .i64 v,.sl 4 w ps.length],.set ⟨addrOf w,Po.psC ps,.row w 42 8 ps.length⟩]) (fun (G,w,ps)=>l.length - ps.length) (F1,.slice none 0 0,[]) ⟨F1.le_refl,rfl,Nat.zero_le _,fun p hp=>by simp at hp⟩ ?_ ((Qw.nilRow _ 42 8).trans (Qw.congr rfl)) ?_
   ·exact aD
   (intro ⟨G,w,ps⟩ ⟨hle,hmap,hlen,hall⟩;intro K hK;(conv=>whnf);refine hK _ _ ?_;clear hK K)
   dsimp only
   generalize hk:ps.length=i at *
   by_cases hlt:i<l.length
   ·have hx:l[i]?=some l[i]:=List.getElem?_eq_getElem hlt
    obtain ⟨pA,pcap,A,cap,hA,c0,c1,c2,c3,c4,c5,c6,c7⟩:=(Po.Row.mono (hle1.trans hle) hu).get hx
    have hAo:=hA.l.ok
    have hAp:=hA.p.ok
    have hmem:=List.mem_of_getElem? hx
    have c:=ih G _ hmem _ _ hA
    have hnx:l.take (i+1)=l.take i++[l[i]]:=by rw [List.take_add_one,hx];rfl
    clear ih
    generalize l[i]=y at *
    have hpl:=Po.psC_len ps
    have hpn:=Po.psC_next ps
    generalize hpc:Po.psC ps=pc at *
    obtain ⟨yk,⟨ypk,ypf,ypv,ypl⟩,yf,yv,yl⟩:=y
    simp only [Po.Lays,Po.cs,Po.T.k,Po.T.p,Po.T.f,Po.T.v,Po.T.l,Pd.T.k,Pd.T.f,Pd.T.v,Pd.T.l] at c c0 c1 c2 c3 c4 c5 c6 c7 hAo hAp
    repeat' first|(intro K hK;(with_reducible refine gC ?_);(refine cN [0] c ?_;rintro _ _ ⟨G',pw',w',hle2,hrow,rfl,rfl⟩;refine cR ?_))|(refine sxO ?_;try clear hK K)|refine sxW ?_ ?_<;>intro _|refine sxV ?_ ?_|(intro K hK _;conv=>whnf)
    all_goals
     rename_i v9
     refine aC (G',v9,ps++[⟨.mk yk (.mk ypk ypf ypv ypl) yf yv yl,pw',w'⟩]) ⟨hle.trans hle2,by rw [List.map_append,hmap,List.length_append,hk];exact hnx.symm,by rw [List.length_append,hk];exact hlt,fun x hx=>?_⟩ (by rw [List.length_append,hk];show l.length - (i+1)<l.length - i;omega) ?_ (Qw.pre 5 ?_)
     ·rcases List.mem_append.1 hx with hx | hx
      ·exact Po.At.mono hle2 (hall x hx)
      ·rw [List.mem_singleton.1 hx];exact hrow
     ·simp only [List.length_append,hk]
      exact aD
     ·simp only [autoM,List.take,List.length_append,hk,hpn]
      rw [show i+[(⟨.mk yk (.mk ypk ypf ypv ypl) yf yv yl,pw',w'⟩:Po.L)].length=i+1 from rfl]
      rfl
   ·have hkl:i=l.length:=by omega
    subst hkl
    clear ih cp
    repeat' first|(refine sxZ ?_;try clear hK K)|refine sxW ?_ ?_<;>intro _|(intro K hK _;conv=>whnf)
    all_goals exact ⟨G,pu1,w,ps,hle1.trans hle,by rw [hmap,List.take_length];rfl,hall,Pd.Row.mono hle hpu1,rfl,by rw [hk];exact Qw.pick [0,4] (by decide) rfl⟩
theorem jA (F:Heap) (f w:Int) (hf : -9223372036854775808≤f∧f≤9223372036854775807):∀ (n:Nat) (x:Po.T) (pu u:Value),Po.tot x≤n→Po.tot x≤4611686018427387904→Po.At F x pu u →
  Qz Tryz.prog 48 [.agg (Po.cs x pu u),.int .i64 f,.int .i64 w] [hpB F] fun r m=>r = .bool (decide (w∈Po.vals f x))∧m=[hpB F]
 | 0,x,pu,u,hn,_,_=>absurd (Po.tot_pos x) (by omega)
 | n+1,⟨k,p,a,v,l⟩,pu,u,hn,hs,hx=>by
  refine Qz.fits (K:=fun r m=>r = .bool (decide (w∈Po.vals f (.mk k p a v l)))∧Qw m [hpB F]) ?_ fun r m' h=>⟨r,_,rfl,h.2,h.1,rfl⟩
  have hu:Po.Row F u l:=hx.l
  have hpu:Pd.Row F pu p.l:=hx.p
  have hok:=hu.ok
  have hpok:=hpu.ok
  have e2:=Po.tot_mk k p a v l
  have hll:=Po.length_le l
  have ih:∀ y∈l,∀ pA A,Po.At F y pA A→Qz Tryz.prog 48 [.agg (Po.cs y pA A),.int .i64 f,.int .i64 w] [hpB F] fun r m=>r = .bool (decide (w∈Po.vals f y))∧m=[hpB F] :=
   fun y hy pA A hA=>jA F f w hf n y pA A (by have:=Po.tot_lt (k:=k) (q:=p) (f:=a) (v:=v) hy;omega) (by have:=Po.tot_lt (k:=k) (q:=p) (f:=a) (v:=v) hy;omega) hA
  have ca:=kr F f w hf _ p pu (Nat.le_refl _) (by omega) hpu
  have hln:l.length≤4611686018427387904:=by omega
  have e:(w∈Po.vals f (.mk k p a v l))↔(k=2∧a=f∧v=w)∨w∈Pd.vals f p∨w∈Po.valsL f l:=by
   rw [Po.vals,List.mem_append,List.mem_append,Pd.values_mem,or_assoc]
   refine or_congr ?_ Iff.rfl
   split
   ·rename_i h
    rw [List.mem_singleton]
    exact ⟨fun e=>⟨h.1,h.2,e.symm⟩,fun e=>e.2.2.symm⟩
   ·rename_i h
    simp only [List.not_mem_nil,false_iff]
    exact fun e=>h ⟨e.1,e.2.1⟩
  have e':decide (w∈Po.vals f (.mk k p a v l))=decide ((k=2∧a=f∧v=w)∨w∈Pd.vals f p∨w∈Po.valsL f l):=decide_eq_decide.2 e
  rw [e']
  clear e e' hx hs hn e2 hll
  rw [aY]
  obtain ⟨pk,pf,pv,pl⟩:=p
  simp only [pd_cs,Pd.T.k,Pd.T.f,Pd.T.v,Pd.T.l] at *
  refine aB Tryz.func48 rfl (by decide) ?_
  by_cases h1:k=2∧a=f∧v=w
  ·obtain ⟨rfl,rfl,rfl⟩:=h1
   clear ih
   repeat' first|((first|intro A B hA hB|intro K hK|skip);first|((with_reducible refine NIf.yes ?s ?_);(case s=>simp ;done);conv=>whnf)|((with_reducible refine NIf.no ?s ?_);(case s=>simp ;done);conv=>whnf))|(refine sxZ ?_;(try clear hK K);try clear hA hB A B)|refine sxW ?_ ?_<;>intro _|(intro K hK _;conv=>whnf)
   all_goals exact ⟨by simp,Qw.pre 1 rfl⟩
  by_cases hq:w∈Pd.vals f (.mk pk pf pv pl)
  ·rw [decide_eq_true hq] at ca
   clear ih
   rw [show decide (k=2∧a=f∧v=w∨w∈Pd.vals f (.mk pk pf pv pl)∨w∈Po.valsL f l)=true from decide_eq_true (.inr (.inl hq))]
   by_cases hk:k=2
   ·by_cases ha:a=f
    ·have hv:v≠w:=fun e=>h1 ⟨hk,ha,e⟩
     subst hk ha
     repeat' first|((try intro K hK);(with_reducible refine gC ?_);refine cS [0] ca ?_)|((first|intro A B hA hB|intro K hK|skip);first|((with_reducible refine NIf.yes ?s ?_);(case s=>simp [hv];done);conv=>whnf)|((with_reducible refine NIf.no ?s ?_);(case s=>simp [hv];done);conv=>whnf))|(refine sxZ ?_;(try clear hK K);try clear hA hB A B)|refine sxW ?_ ?_<;>intro _|(intro K hK _;conv=>whnf)
     all_goals exact ⟨rfl,Qw.pre 1 rfl⟩
    ·repeat' first|((try intro K hK);(with_reducible refine gC ?_);refine cS [0] ca ?_)|((first|intro A B hA hB|intro K hK|skip);first|((with_reducible refine NIf.yes ?s ?_);(case s=>simp [ha];done);conv=>whnf)|((with_reducible refine NIf.no ?s ?_);(case s=>simp [ha];done);conv=>whnf))|(refine sxZ ?_;(try clear hK K);try clear hA hB A B)|refine sxW ?_ ?_<;>intro _|(intro K hK _;conv=>whnf)
     all_goals exact ⟨rfl,Qw.pre 1 rfl⟩
   ·repeat' first|((try intro K hK);(with_reducible refine gC ?_);refine cS [0] ca ?_)|((first|intro A B hA hB|intro K hK|skip);first|((with_reducible refine NIf.yes ?s ?_);(case s=>simp [hk];done);conv=>whnf)|((with_reducible refine NIf.no ?s ?_);(case s=>simp [hk];done);conv=>whnf))|(refine sxZ ?_;(try clear hK K);try clear hA hB A B)|refine sxW ?_ ?_<;>intro _|(intro K hK _;conv=>whnf)
    all_goals exact ⟨rfl,Qw.pre 1 rfl⟩
  ·rw [decide_eq_false hq] at ca
   rw [show decide (k=2∧a=f∧v=w∨w∈Pd.vals f (.mk pk pf pv pl)∨w∈Po.valsL f l)=decide (w∈Po.valsL f l) from decide_eq_decide.2 ⟨fun h=>(h.resolve_left h1).resolve_left hq,fun h=>.inr (.inr h)⟩]
   by_cases hk:k=2
   ·by_cases ha:a=f
    ·have hv:v≠w:=fun e=>h1 ⟨hk,ha,e⟩
     subst hk ha
     repeat' first|((try intro K hK);(with_reducible refine gC ?_);refine cS [0] ca ?_)|((first|intro A B hA hB|intro K hK|skip);first|((with_reducible refine NIf.yes ?s ?_);(case s=>simp [hv];done);conv=>whnf)|((with_reducible refine NIf.no ?s ?_);(case s=>simp [hv];done);conv=>whnf))|(refine sxZ ?_;(try clear hK K);try clear hA hB A B)|refine sxW ?_ ?_<;>intro _|(intro K hK _;conv=>whnf)
     refine aE (α:=Nat) (fun i=>i≤l.length∧¬ w∈Po.valsL a (l.take i)) (fun i=>[.k,.k,.k,.k,.k,.k,.set (.bool false),.set (.int .i64 i),.k,.k,.k,.k,.k,.k,.k,.k,.k,.k,.k,.k,.k,.k,.k,.k,.k,.k,.k,.k,.k,.k,.d,.d,.d,.d,.d,.d,.d,.d,.d,.d,.d,.d,.d,.d,.d]) (fun _=>[]) (fun i=>l.length - i) 0 ⟨Nat.zero_le _,by simp [Po.valsL]⟩ ?_ (Qw.eq rfl) ?_
     ·exact aD
     (intro i ⟨hi,hno⟩;intro K hK;(conv=>whnf);refine hK _ _ ?_;clear hK K)
     by_cases hlt:i<l.length
     ·have hx:l[i]?=some l[i]:=List.getElem?_eq_getElem hlt
      obtain ⟨pA,pcap,A,cap,hA,c0,c1,c2,c3,c4,c5,c6,c7⟩:=hu.get hx
      have hAo:=hA.l.ok
      have hAp:=hA.p.ok
      have hmem:=List.mem_of_getElem? hx
      have c:=ih _ hmem _ _ hA
      have hnx:=Po.valsL_take a hlt
      have hyes:w∈Po.vals a l[i]→w∈Po.valsL a l:=fun hw=>by
       have e:=Po.valsL_append a (l.take (i+1)) (l.drop (i+1))
       rw [List.take_append_drop,hnx] at e
       rw [e]
       exact List.mem_append_left _ (List.mem_append_right _ hw)
      have hnext:¬ w∈Po.vals a l[i]→¬ w∈Po.valsL a (l.take (i+1)):=fun h1 h2=>by
       rw [hnx] at h2
       rcases List.mem_append.1 h2 with h2 | h2
       ·exact hno h2
       ·exact h1 h2
      clear ih hnx ca
      generalize l[i]=y at *
      by_cases hw:w∈Po.vals a y
      ·rw [decide_eq_true hw] at c
       have hy:=hyes hw
       clear hyes hnext hw
       obtain ⟨yk,⟨ypk,ypf,ypv,ypl⟩,yf,yv,yl⟩:=y
       simp only [Po.cs,Po.T.k,Po.T.p,Po.T.f,Po.T.v,Po.T.l,Pd.T.k,Pd.T.f,Pd.T.v,Pd.T.l] at c c0 c1 c2 c3 c4 c5 c6 c7 hAo hAp
       repeat' first|(intro K hK;(with_reducible refine gC ?_);refine cS [0] c ?_)|(refine sxZ ?_;try clear hK K)|refine sxW ?_ ?_<;>intro _|(intro K hK _;conv=>whnf)
       all_goals exact ⟨by rw [decide_eq_true hy],Qw.pre 1 rfl⟩
      ·rw [decide_eq_false hw] at c
       have hy:=hnext hw
       clear hyes hnext hw
       obtain ⟨yk,⟨ypk,ypf,ypv,ypl⟩,yf,yv,yl⟩:=y
       simp only [Po.cs,Po.T.k,Po.T.p,Po.T.f,Po.T.v,Po.T.l,Pd.T.k,Pd.T.f,Pd.T.v,Pd.T.l] at c c0 c1 c2 c3 c4 c5 c6 c7 hAo hAp
       repeat' first|(intro K hK;(with_reducible refine gC ?_);refine cS [0] c ?_)|(refine sxZ ?_;try clear hK K)|refine sxW ?_ ?_<;>intro _|(intro K hK _;conv=>whnf)
       refine aC (i+1) ⟨hlt,hy⟩ (by omega) ?_ (Qw.eq rfl)
       exact aD
     ·have hkl:i=l.length:=by omega
      subst hkl
      rw [List.take_length] at hno
      clear ih
      repeat' first|(refine sxZ ?_;try clear hK K)|refine sxW ?_ ?_<;>intro _|(intro K hK _;conv=>whnf)
      all_goals exact ⟨by rw [decide_eq_false hno],Qw.pre 1 rfl⟩
    ·repeat' first|((try intro K hK);(with_reducible refine gC ?_);refine cS [0] ca ?_)|((first|intro A B hA hB|intro K hK|skip);first|((with_reducible refine NIf.yes ?s ?_);(case s=>simp [ha];done);conv=>whnf)|((with_reducible refine NIf.no ?s ?_);(case s=>simp [ha];done);conv=>whnf))|(refine sxZ ?_;(try clear hK K);try clear hA hB A B)|refine sxW ?_ ?_<;>intro _|(intro K hK _;conv=>whnf)
     refine aE (α:=Nat) (fun i=>i≤l.length∧¬ w∈Po.valsL f (l.take i)) (fun i=>[.k,.k,.k,.k,.k,.k,.set (.bool false),.set (.int .i64 i),.k,.k,.k,.k,.k,.k,.k,.k,.k,.k,.k,.k,.k,.k,.k,.k,.k,.k,.k,.k,.k,.k,.d,.d,.d,.d,.d,.d,.d,.d,.d,.d,.d,.d,.d,.d,.d]) (fun _=>[]) (fun i=>l.length - i) 0 ⟨Nat.zero_le _,by simp [Po.valsL]⟩ ?_ (Qw.eq rfl) ?_
     ·exact aD
     (intro i ⟨hi,hno⟩;intro K hK;(conv=>whnf);refine hK _ _ ?_;clear hK K)
     by_cases hlt:i<l.length
     ·have hx:l[i]?=some l[i]:=List.getElem?_eq_getElem hlt
      obtain ⟨pA,pcap,A,cap,hA,c0,c1,c2,c3,c4,c5,c6,c7⟩:=hu.get hx
      have hAo:=hA.l.ok
      have hAp:=hA.p.ok
      have hmem:=List.mem_of_getElem? hx
      have c:=ih _ hmem _ _ hA
      have hnx:=Po.valsL_take f hlt
      have hyes:w∈Po.vals f l[i]→w∈Po.valsL f l:=fun hw=>by
       have e:=Po.valsL_append f (l.take (i+1)) (l.drop (i+1))
       rw [List.take_append_drop,hnx] at e
       rw [e]
       exact List.mem_append_left _ (List.mem_append_right _ hw)
      have hnext:¬ w∈Po.vals f l[i]→¬ w∈Po.valsL f (l.take (i+1)):=fun h1 h2=>by
       rw [hnx] at h2
       rcases List.mem_append.1 h2 with h2 | h2
       ·exact hno h2
       ·exact h1 h2
      clear ih hnx ca
      generalize l[i]=y at *
      by_cases hw:w∈Po.vals f y
      ·rw [decide_eq_true hw] at c
       have hy:=hyes hw
       clear hyes hnext hw
       obtain ⟨yk,⟨ypk,ypf,ypv,ypl⟩,yf,yv,yl⟩:=y
       simp only [Po.cs,Po.T.k,Po.T.p,Po.T.f,Po.T.v,Po.T.l,Pd.T.k,Pd.T.f,Pd.T.v,Pd.T.l] at c c0 c1 c2 c3 c4 c5 c6 c7 hAo hAp
       repeat' first|(intro K hK;(with_reducible refine gC ?_);refine cS [0] c ?_)|(refine sxZ ?_;try clear hK K)|refine sxW ?_ ?_<;>intro _|(intro K hK _;conv=>whnf)
       all_goals exact ⟨by rw [decide_eq_true hy],Qw.pre 1 rfl⟩
      ·rw [decide_eq_false hw] at c
       have hy:=hnext hw
       clear hyes hnext hw
       obtain ⟨yk,⟨ypk,ypf,ypv,ypl⟩,yf,yv,yl⟩:=y
       simp only [Po.cs,Po.T.k,Po.T.p,Po.T.f,Po.T.v,Po.T.l,Pd.T.k,Pd.T.f,Pd.T.v,Pd.T.l] at c c0 c1 c2 c3 c4 c5 c6 c7 hAo hAp
       repeat' first|(intro K hK;(with_reducible refine gC ?_);refine cS [0] c ?_)|(refine sxZ ?_;try clear hK K)|refine sxW ?_ ?_<;>intro _|(intro K hK _;conv=>whnf)
       refine aC (i+1) ⟨hlt,hy⟩ (by omega) ?_ (Qw.eq rfl)
       exact aD
     ·have hkl:i=l.length:=by omega
      subst hkl
      rw [List.take_length] at hno
      clear ih
      repeat' first|(refine sxZ ?_;try clear hK K)|refine sxW ?_ ?_<;>intro _|(intro K hK _;conv=>whnf)
      all_goals exact ⟨by rw [decide_eq_false hno],Qw.pre 1 rfl⟩
   ·repeat' first|((try intro K hK);(with_reducible refine gC ?_);refine cS [0] ca ?_)|((first|intro A B hA hB|intro K hK|skip);first|((with_reducible refine NIf.yes ?s ?_);(case s=>simp [hk];done);conv=>whnf)|((with_reducible refine NIf.no ?s ?_);(case s=>simp [hk];done);conv=>whnf))|(refine sxZ ?_;(try clear hK K);try clear hA hB A B)|refine sxW ?_ ?_<;>intro _|(intro K hK _;conv=>whnf)
    refine aE (α:=Nat) (fun i=>i≤l.length∧¬ w∈Po.valsL f (l.take i)) (fun i=>[.k,.k,.k,.k,.k,.k,.set (.bool false),.set (.int .i64 i),.k,.k,.k,.k,.k,.k,.k,.k,.k,.k,.k,.k,.k,.k,.k,.k,.k,.k,.k,.k,.k,.k,.d,.d,.d,.d,.d,.d,.d,.d,.d,.d,.d,.d,.d,.d,.d]) (fun _=>[]) (fun i=>l.length - i) 0 ⟨Nat.zero_le _,by simp [Po.valsL]⟩ ?_ (Qw.eq rfl) ?_
    ·exact aD
    (intro i ⟨hi,hno⟩;intro K hK;(conv=>whnf);refine hK _ _ ?_;clear hK K)
    by_cases hlt:i<l.length
    ·have hx:l[i]?=some l[i]:=List.getElem?_eq_getElem hlt
     obtain ⟨pA,pcap,A,cap,hA,c0,c1,c2,c3,c4,c5,c6,c7⟩:=hu.get hx
     have hAo:=hA.l.ok
     have hAp:=hA.p.ok
     have hmem:=List.mem_of_getElem? hx
     have c:=ih _ hmem _ _ hA
     have hnx:=Po.valsL_take f hlt
     have hyes:w∈Po.vals f l[i]→w∈Po.valsL f l:=fun hw=>by
      have e:=Po.valsL_append f (l.take (i+1)) (l.drop (i+1))
      rw [List.take_append_drop,hnx] at e
      rw [e]
      exact List.mem_append_left _ (List.mem_append_right _ hw)
     have hnext:¬ w∈Po.vals f l[i]→¬ w∈Po.valsL f (l.take (i+1)):=fun h1 h2=>by
      rw [hnx] at h2
      rcases List.mem_append.1 h2 with h2 | h2
      ·exact hno h2
      ·exact h1 h2
     clear ih hnx ca
     generalize l[i]=y at *
     by_cases hw:w∈Po.vals f y
     ·rw [decide_eq_true hw] at c
      have hy:=hyes hw
      clear hyes hnext hw
      obtain ⟨yk,⟨ypk,ypf,ypv,ypl⟩,yf,yv,yl⟩:=y
      simp only [Po.cs,Po.T.k,Po.T.p,Po.T.f,Po.T.v,Po.T.l,Pd.T.k,Pd.T.f,Pd.T.v,Pd.T.l] at c c0 c1 c2 c3 c4 c5 c6 c7 hAo hAp
      repeat' first|(intro K hK;(with_reducible refine gC ?_);refine cS [0] c ?_)|(refine sxZ ?_;try clear hK K)|refine sxW ?_ ?_<;>intro _|(intro K hK _;conv=>whnf)
      all_goals exact ⟨by rw [decide_eq_true hy],Qw.pre 1 rfl⟩
     ·rw [decide_eq_false hw] at c
      have hy:=hnext hw
      clear hyes hnext hw
      obtain ⟨yk,⟨ypk,ypf,ypv,ypl⟩,yf,yv,yl⟩:=y
      simp only [Po.cs,Po.T.k,Po.T.p,Po.T.f,Po.T.v,Po.T.l,Pd.T.k,Pd.T.f,Pd.T.v,Pd.T.l] at c c0 c1 c2 c3 c4 c5 c6 c7 hAo hAp
      repeat' first|(intro K hK;(with_reducible refine gC ?_);refine cS [0] c ?_)|(refine sxZ ?_;try clear hK K)|refine sxW ?_ ?_<;>intro _|(intro K hK _;conv=>whnf)
      refine aC (i+1) ⟨hlt,hy⟩ (by omega) ?_ (Qw.eq rfl)
      exact aD
    ·have hkl:i=l.length:=by omega
     subst hkl
     rw [List.take_length] at hno
     clear ih
     repeat' first|(refine sxZ ?_;try clear hK K)|refine sxW ?_ ?_<;>intro _|(intro K hK _;conv=>whnf)
     all_goals exact ⟨by rw [decide_eq_false hno],Qw.pre 1 rfl⟩
end Go.Proofs.YtmehinfgdcmmjaaGreatDoor
