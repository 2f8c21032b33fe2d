import Derived.Test.YtmehinfgdcmmjaaGreatJ18
import Derived.Test.YtmehinfgdcmmjaaGreatJ10
import Derived.Test.YtmehinfgdcmmjaaGreatJ2
import Derived.Test.YtmehinfgdcmmjaaGreatJ9
import Derived.Test.YtmehinfgdcmmjaaGreatJ17
import Derived.Test.YtmehinfgdcmmjaaGreatSxC
namespace Go.Proofs.YtmehinfgdcmmjaaGreat
open Go.Sx
set_option maxRecDepth 20000
set_option linter.unusedSimpArgs false
set_option linter.unusedVariables false
set_option maxHeartbeats 4000000
theorem Po.any_fits (l:List Po.T):(l.any fun x=>!Po.fits x)=!Po.fitsL l:=by
 induction l with
 | nil=>rfl
 | cons p l ih=>rw [List.any_cons,ih,Po.fitsL];cases Po.fits p<;>simp
theorem poF {p:Prop} [Decidable p] (h:¬ p):AV.bool false=AV.bool (decide p):=by rw [decide_eq_false h]
section
variable (F:Heap)
theorem ow (k:Int) (p:Pd.T) (f v:Int) (l:List Po.T) (pu u:Value) (hok:SlOk u l.length) (hs:Pd.size p≤4611686018427387904) (hp:Pd.Row F pu p.l) :
  NCall Tryz.prog 132 [.agg (Po.cs (.mk k p f v l) pu u)] [hpB F] fun r m=>r = .bool (Po.none p)∧m=[hpB F]:=by
 refine NCall.fits (K:=fun r m=>r = .bool (Po.none p)∧MemFits m [hpB F]) ?_ fun r m' h=>⟨r,_,rfl,h.2,h.1,rfl⟩
 have c:=j5 F _ p Po.noneP pu (.slice none 0 0) (Nat.le_refl _) hs (by decide +kernel) hp aH.nil
 have hpok:=hp.ok
 rw [ax]
 unfold Po.none
 generalize Pd.same p Po.noneP=b at *
 clear hs hp
 obtain ⟨pk,pf,pv,pl⟩:=p
 simp only [ab,Po.noneP,Pd.T.k,Pd.T.f,Pd.T.v,Pd.T.l,List.length_nil] at *
 refine aA Tryz.func132 rfl (by decide) ?_
 repeat' first|(intro K hK;(with_reducible refine gC ?_);refine cS [0] c ?_)|(refine sxZ ?_;try clear hK K)|refine sxW ?_ ?_<;>intro _|(intro K hK _;conv=>whnf)
 all_goals exact ⟨rfl,MemFits.pre 1 rfl⟩
theorem nE (k:Int) (p:Pd.T) (f v:Int) (l:List Po.T) (pu u:Value) (hs:Pd.size p≤4611686018427387904) (hn:l.length≤4611686018427387904) (hx:Po.At F (.mk k p f v l) pu u) :
  NCall Tryz.prog 103 [.agg (Po.cs (.mk k p f v l) pu u)] [hpB F] fun r m=>r = .bool (Po.shape k p f v l.length)∧m=[hpB F]:=by
 refine NCall.fits (K:=fun r m=>r = .bool (Po.shape k p f v l.length)∧MemFits m [hpB F]) ?_ fun r m' h=>⟨r,_,rfl,h.2,h.1,rfl⟩
 have hp:Pd.Row F pu p.l:=hx.p
 have hok:SlOk u l.length:=hx.l.ok
 have hpok:=hp.ok
 have cn:=ow F k p f v l pu u hok hs hp
 have cr:=nK F p pu hs hp
 have ct:=mN f
 unfold Po.shape
 rw [ax] at *
 generalize Po.none p=nb at *
 generalize Pd.right p=rb at *
 generalize Pd.top f=tp at *
 clear hs hx hp
 obtain ⟨pk,pf,pv,pl⟩:=p
 simp only [ab,Pd.T.k,Pd.T.f,Pd.T.v,Pd.T.l] at *
 generalize l.length=n at *
 refine aA Tryz.func103 rfl (by decide) ?_
 by_cases h1:k=1
 ·subst h1
  cases rb
  all_goals (repeat' first|(intro K hK;(with_reducible refine gC ?_);refine cS [0] cr ?_)|(refine aV [] ?_;try clear hK K)|refine sxW ?_ ?_<;>intro _|refine aW ?_ ?_|(intro K hK _;conv=>whnf))
  all_goals first
   | exact ⟨poF (by simp;try omega),MemFits.pre 1 rfl⟩
   | exact ⟨poT (by simp;omega),MemFits.pre 1 rfl⟩
   | (refine ⟨?_,MemFits.pre 1 rfl⟩;congr 1;apply decide_eq_decide.2;simp;omega)
 by_cases h2:k=2
 ·subst h2
  cases nb
  all_goals (repeat' first|(intro K hK;(with_reducible refine gC ?_);first|refine cS [0] cn ?_|refine cP ct ?_)|(refine aV [] ?_;try clear hK K)|refine sxW ?_ ?_<;>intro _|refine aW ?_ ?_|(intro K hK _;conv=>whnf))
  all_goals first
   | exact ⟨poF (by simp;try omega),MemFits.pre 1 rfl⟩
   | exact ⟨poT (by simp;omega),MemFits.pre 1 rfl⟩
   | (refine ⟨?_,MemFits.pre 1 rfl⟩;congr 1;apply decide_eq_decide.2;simp;omega)
 by_cases h34:k=3∨k=4
 ·rcases h34 with rfl | rfl
  iterate 2
   ·cases nb
    all_goals (repeat' first|(intro K hK;(with_reducible refine gC ?_);refine cS [0] cn ?_)|(refine aV [] ?_;try clear hK K)|refine sxW ?_ ?_<;>intro _|refine aW ?_ ?_|(intro K hK _;conv=>whnf))
    all_goals first
     | exact ⟨poF (by simp;try omega),MemFits.pre 1 rfl⟩
     | exact ⟨poT (by simp;omega),MemFits.pre 1 rfl⟩
     | (refine ⟨?_,MemFits.pre 1 rfl⟩;congr 1;apply decide_eq_decide.2;simp;omega)
 by_cases h5:k=5
 ·subst h5
  cases rb
  all_goals (repeat' first|(intro K hK;(with_reducible refine gC ?_);refine cS [0] cr ?_)|(refine aV [] ?_;try clear hK K)|refine sxW ?_ ?_<;>intro _|refine aW ?_ ?_|(intro K hK _;conv=>whnf))
  all_goals first
   | exact ⟨poF (by simp;try omega),MemFits.pre 1 rfl⟩
   | exact ⟨poT (by simp;omega),MemFits.pre 1 rfl⟩
   | (refine ⟨?_,MemFits.pre 1 rfl⟩;congr 1;apply decide_eq_decide.2;simp;omega)
 repeat' first|(refine aV [] ?_;try clear hK K)|refine sxW ?_ ?_<;>intro _|refine aW ?_ ?_|(intro K hK _;conv=>whnf)
 all_goals first
  | exact ⟨poF (by omega),MemFits.pre 1 rfl⟩
  | (exfalso;omega)
end
section
variable (F:Heap)
theorem nj (q:Po.T→Bool) (v:Value) (l:List Po.T) (hv:Po.Row F v l) (hn:l.length≤4611686018427387904) (g:FuncId) (first captured:List AV)
  (hg:∀ x∈l,∀ pA A,Po.At F x pA A→NCall Tryz.prog g (first++[.agg (Po.cs x pA A)]++captured) [hpB F] fun r m=>r = .bool (q x)∧m=[hpB F]) :
  NCall Tryz.prog 134 [.hs v l.length,.fn g first captured] [hpB F] fun r m=>(∃ j:Int,r = .int .i64 j∧(0≤j↔l.any q=true))∧m=[hpB F]:=by
 have hok:=hv.ok
 refine aA Tryz.func134 rfl (by decide) ?_
 repeat' first|(refine sxZ ?_;try clear hK K)|refine sxW ?_ ?_<;>intro _|(intro K hK _;conv=>whnf)
 refine aD (α:=Nat) (fun k=>k≤l.length∧∀ (j:Nat) (x:Po.T),j<k→l[j]?=some x→q x=false) (fun k=>[.k,.k,.k,.k,.d,.d,.k,.k,.set (.int .i64 k),.d,.d,.d,.d,.d,.d,.d,.d,.d,.d]) (fun _=>[]) (fun k=>l.length - k) 0 ⟨Nat.zero_le _,fun j x hj=>absurd hj (Nat.not_lt_zero _)⟩ ?_ (MemFits.eq rfl) ?_
 ·exact aC
 (intro k ⟨hk,hgone⟩;intro K hK;(conv=>whnf);refine hK _ _ ?_;clear hK K)
 by_cases hlt:k<l.length
 ·have hx:l[k]?=some l[k]:=List.getElem?_eq_getElem hlt
  obtain ⟨pA,pcap,A,cap,hA,c0,c1,c2,c3,c4,c5,c6,c7⟩:=hv.get hx
  have hAo:=hA.l.ok
  have hAp:=hA.p.ok
  have hmem:=List.mem_of_getElem? hx
  have c:=hg _ hmem _ _ hA
  generalize l[k]=x at *
  obtain ⟨yk,⟨ypk,ypf,ypv,ypl⟩,yf,yv,yl⟩:=x
  simp only [Po.cs,Po.T.k,Po.T.p,Po.T.f,Po.T.v,Po.T.l,Pd.T.k,Pd.T.f,Pd.T.v,Pd.T.l] at c c0 c1 c2 c3 c4 c5 c6 c7 hAo hAp
  cases hq:q (.mk yk (.mk ypk ypf ypv ypl) yf yv yl) with
  | false =>
   rw [hq] at c
   repeat' first|(intro K hK;(with_reducible refine gC ?_);refine cS [0] c ?_)|(refine sxZ ?_;try clear hK K)|refine sxW ?_ ?_<;>intro _|(intro K hK _;conv=>whnf)
   refine aB (k+1) ⟨hlt,fun j y hj hy=>?_⟩ (by omega) ?_ (MemFits.eq rfl)
   ·by_cases e:j=k
    ·subst e
     rw [hx] at hy
     injection hy with hy
     rw [← hy];exact hq
    ·exact hgone j y (by omega) hy
   ·exact aC
  | true =>
   rw [hq] at c
   repeat' first|(intro K hK;(with_reducible refine gC ?_);refine cS [0] c ?_)|(refine sxZ ?_;try clear hK K)|refine sxW ?_ ?_<;>intro _|(intro K hK _;conv=>whnf)
   exact ⟨⟨_,rfl,⟨fun _=>List.any_eq_true.2 ⟨_,hmem,hq⟩,fun _=>by omega⟩⟩,rfl⟩
 ·have hno:¬ l.any q=true:=fun h=>by
   obtain ⟨x,hx,hq⟩:=List.any_eq_true.1 h
   obtain ⟨j,hj,e⟩:=List.getElem_of_mem hx
   have:=hgone j x (by omega) (by rw [← e];exact List.getElem?_eq_getElem hj)
   rw [this] at hq
   cases hq
  repeat' first|(refine sxZ ?_;try clear hK K)|refine sxW ?_ ?_<;>intro _|(intro K hK _;conv=>whnf)
  exact ⟨⟨_,rfl,⟨fun h=>by omega,fun h=>(hno h).elim⟩⟩,rfl⟩
theorem je (q:Po.T→Bool) (v:Value) (l:List Po.T) (hv:Po.Row F v l) (hn:l.length≤4611686018427387904) (g:FuncId) (first captured:List AV)
  (hg:∀ x∈l,∀ pA A,Po.At F x pA A→NCall Tryz.prog g (first++[.agg (Po.cs x pA A)]++captured) [hpB F] fun r m=>r = .bool (q x)∧m=[hpB F]) :
  NCall Tryz.prog 104 [.hs v l.length,.fn g first captured] [hpB F] fun r m=>r = .bool (l.any q)∧m=[hpB F]:=by
 have hi:=nj F q v l hv hn g first captured hg
 refine aA Tryz.func104 rfl (by decide) ?_
 repeat' first|(intro K hK;(with_reducible refine gC ?_);(refine cN [0] hi ?_;rintro _ _ ⟨⟨j,rfl,hj⟩,rfl⟩;refine cR ?_))|(refine sxZ ?_;try clear hK K)|refine sxW ?_ ?_<;>intro _|(intro K hK _;conv=>whnf)
 all_goals
  refine ⟨?_,rfl⟩
  congr 1
  by_cases h:0≤j
  ·rw [hj.1 h];exact decide_eq_true h
  ·rw [show l.any q=false by cases e:l.any q with | false=>rfl | true=>exact (h (hj.2 e)).elim];exact decide_eq_false h
theorem mj:∀ (n:Nat) (x:Po.T) (pu u:Value),Po.tot x≤n→Po.tot x≤4611686018427387904→Po.At F x pu u →
  NCall Tryz.prog 76 [.agg (Po.cs x pu u)] [hpB F] fun r m=>r = .bool (Po.fits x)∧m=[hpB F]
 | 0,x,pu,u,hn,_,_=>absurd (Po.tot_pos x) (by omega)
 | n+1,⟨k,p,f,v,l⟩,pu,u,hn,hs,hx=>by
  refine NCall.fits (K:=fun r m=>r = .bool (Po.fits (.mk k p f v l))∧MemFits m [hpB F]) ?_ fun r m' h=>⟨r,_,rfl,h.2,h.1,rfl⟩
  have hu:Po.Row F u l:=hx.l
  have hok:=hu.ok
  have hpok:SlOk pu p.l.length:=hx.p.ok
  have hll:=Po.length_le l
  have e2:=Po.tot_mk k p f v l
  have ih:∀ x∈l,∀ pA A,Po.At F x pA A→NCall Tryz.prog 105 ([]++[.agg (Po.cs x pA A)]++[]) [hpB F] fun r m=>r = .bool (!Po.fits x)∧m=[hpB F]:=fun x hx pA A hA=>by
   have c:=mj n x pA A (by have:=Po.tot_lt (k:=k) (q:=p) (f:=f) (v:=v) hx;omega) (by have:=Po.tot_lt (k:=k) (q:=p) (f:=f) (v:=v) hx;omega) hA
   refine NCall.fits (K:=fun r m=>r = .bool (!Po.fits x)∧MemFits m [hpB F]) ?_ fun r m' h=>⟨r,_,rfl,h.2,h.1,rfl⟩
   have hAo:=hA.l.ok
   have hAp:=hA.p.ok
   generalize Po.fits x=b at *
   simp only [Po.cs] at *
   refine aA Tryz.func105 rfl (by decide) ?_
   repeat' first|(intro K hK;(with_reducible refine gC ?_);refine cS [0] c ?_)|(refine sxZ ?_;try clear hK K)|refine sxW ?_ ?_<;>intro _|(intro K hK _;conv=>whnf)
   all_goals exact ⟨rfl,MemFits.pre 1 rfl⟩
  have cc:=je F (fun x=>!Po.fits x) u l hu (by omega) _ [] [] ih
  rw [Po.any_fits] at cc
  have cs:=nE F k p f v l pu u (by omega) (by omega) hx
  rw [Po.fits]
  generalize Po.shape k p f v l.length=sb at *
  generalize Po.fitsL l=fb at *
  rw [ax] at *
  clear ih hx
  refine aA Tryz.func76 rfl (by decide) ?_
  cases sb
  ·repeat' first|(intro K hK;(with_reducible refine gC ?_);refine cS [0] cs ?_)|(refine sxZ ?_;try clear hK K)|refine sxW ?_ ?_<;>intro _|(intro K hK _;conv=>whnf)
   all_goals exact ⟨rfl,MemFits.pre 1 rfl⟩
  ·repeat' first|(intro K hK;(with_reducible refine gC ?_);first|refine cS [0] cs ?_|refine cS [0] cc ?_)|(refine sxZ ?_;try clear hK K)|refine sxW ?_ ?_<;>intro _|(intro K hK _;conv=>whnf)
   all_goals exact ⟨by cases fb<;>rfl,MemFits.pre 1 rfl⟩
theorem iU (x:Po.T) (pu u:Value) (hs:Po.tot x≤4611686018427387904) (hx:Po.At F x pu u):NCall Tryz.prog 44 [.agg (Po.cs x pu u)] [hpB F] fun r m=>r = .bool (Po.right x)∧m=[hpB F]:=by
 refine NCall.fits (K:=fun r m=>r = .bool (Po.right x)∧MemFits m [hpB F]) ?_ fun r m' h=>⟨r,_,rfl,h.2,h.1,rfl⟩
 have c1:=jx F _ x pu u (Nat.le_refl _) hs hx
 have c2:=ko F _ x pu u (Nat.le_refl _) hs hx
 have c3:=jo F _ x pu u (Nat.le_refl _) hs hx
 have c4:=mj F _ x pu u (Nat.le_refl _) hs hx
 have hd:=Po.deep_tot x
 have hz:=Po.size_tot x
 have hwd:=Po.wide_le x
 have hok:=hx.l.ok
 have hpok:=hx.p.ok
 unfold Po.right
 generalize Po.fits x=fb at *
 generalize Po.size x=sz at *
 generalize Po.deep x=dp at *
 generalize Po.wide x=wd at *
 simp only [Po.cs] at *
 clear hx
 refine aA Tryz.func44 rfl (by decide) ?_
 by_cases h1:dp≤8
 ·by_cases h2:sz≤64
  ·by_cases h3:wd≤64
   ·repeat' first|(intro K hK;(with_reducible refine gC ?_);first|refine cS [0] c1 ?_|refine cS [0] c2 ?_|refine cS [0] c3 ?_|refine cS [0] c4 ?_)|(refine sxZ ?_;try clear hK K)|refine sxW ?_ ?_<;>intro _|(intro K hK _;conv=>whnf)
    all_goals first
     | (exfalso;omega)
     | exact ⟨by simp [h1,h2,h3],MemFits.pre 1 rfl⟩
   ·repeat' first|(intro K hK;(with_reducible refine gC ?_);first|refine cS [0] c1 ?_|refine cS [0] c2 ?_|refine cS [0] c3 ?_)|(refine sxZ ?_;try clear hK K)|refine sxW ?_ ?_<;>intro _|(intro K hK _;conv=>whnf)
    all_goals first
     | (exfalso;omega)
     | exact ⟨by simp [h3],MemFits.pre 1 rfl⟩
  ·repeat' first|(intro K hK;(with_reducible refine gC ?_);first|refine cS [0] c1 ?_|refine cS [0] c2 ?_)|(refine sxZ ?_;try clear hK K)|refine sxW ?_ ?_<;>intro _|(intro K hK _;conv=>whnf)
   all_goals first
    | (exfalso;omega)
    | exact ⟨by simp [h2],MemFits.pre 1 rfl⟩
 ·repeat' first|(intro K hK;(with_reducible refine gC ?_);refine cS [0] c2 ?_)|(refine sxZ ?_;try clear hK K)|refine sxW ?_ ?_<;>intro _|(intro K hK _;conv=>whnf)
  all_goals first
   | (exfalso;omega)
   | exact ⟨by simp [h1],MemFits.pre 1 rfl⟩
end
namespace Po
structure L where
 x:T
 pu:Value
 u:Value
def psC (ps:List L):List AV:=ps.flatMap fun p=>cs p.x p.pu p.u
def psV (p:L):List Value:=denL (cs p.x p.pu p.u)
theorem psC_den:∀ ps,denL (psC ps)=ps.flatMap psV
 | []=>rfl
 | p::ps=>by
  have:=psC_den ps
  unfold psC at *
  rw [List.flatMap_cons,List.flatMap_cons,aQ,this]
  rfl
theorem psC_len (ps:List L):(psC ps).length=ps.length*8:=by
 induction ps with
 | nil=>rfl
 | cons p ps ih =>
  unfold psC at *
  rw [List.flatMap_cons,List.length_append,ih,List.length_cons]
  show 8+_=_
  omega
theorem psC_next (ps:List L) (p:L):psC (ps++[p])=psC ps++cs p.x p.pu p.u:=by
 unfold psC
 rw [List.flatMap_append]
 simp
def Got (F:Heap) (t:TypeId) (X:T) (v:AV) (m:List Blk):Prop :=
 ∃ G pu u,∃ ps:List L,F.le G∧ps.map (·.x)=X.l∧(∀ p∈ps,At G p.x p.pu p.u)∧Pd.Row G pu X.p.l∧v.den=(AV.agg (cs X pu u)).den∧MemFits m [hpB G,⟨addrOf u,psC ps,.row u t 8 ps.length⟩]
theorem row_of {G:Heap} {u:Value} {ps:List L} (h:aH G 8 (fun p vs=>vs=psV p) u ps) (hall:∀ p∈ps,At G p.x p.pu p.u):Row G u (ps.map (·.x)):=by
 refine ⟨by rw [List.length_map];exact h.ok,fun k x hx=>?_⟩
 rw [List.getElem?_map] at hx
 cases hp:ps[k]? with
 | none=>rw [hp] at hx;cases hx
 | some p =>
  rw [hp] at hx
  simp only [Option.map_some,Option.some.injEq] at hx
  subst hx
  obtain ⟨vs,h1,h2,h3⟩:=h.at_ k p hp
  have hr:=hall p (List.mem_of_getElem? hp)
  refine ⟨vs,?_,h2,h3⟩
  obtain ⟨A,cap,hv,hle,hz⟩:=hr.l.ok
  obtain ⟨pA,pcap,hpv,hple,hpz⟩:=hr.p.ok
  rw [h1]
  obtain ⟨x,pw,w⟩:=p
  dsimp only at hv hpv hr ⊢
  subst hv hpv
  exact R.of hr
abbrev Lays (F:Heap) (X:T) (r:AV) (m:List Blk):Prop:=∃ F' pu u,F.le F'∧At F' X pu u∧r = .agg (cs X pu u)∧m=[hpB F']
end Po
theorem mc (F:Heap) (f w:Int) (hf : -9223372036854775808≤f∧f≤9223372036854775807):∀ (n:Nat) (x:Po.T) (pu u:Value),Po.tot x≤n→Po.tot x≤4611686018427387904→Po.At F x pu u →
  NCall Tryz.prog 38 [.agg (Po.cs x pu u),.int .i64 f,.int .i64 w] [hpB F] fun r m=>r = .bool (decide (w∈Po.vals f x))∧m=[hpB F]
 | 0,x,pu,u,hn,_,_=>absurd (Po.tot_pos x) (by omega)
 | n+1,⟨k,p,a,v,l⟩,pu,u,hn,hs,hx=>by
  refine NCall.fits (K:=fun r m=>r = .bool (decide (w∈Po.vals f (.mk k p a v l)))∧MemFits m [hpB F]) ?_ fun r m' h=>⟨r,_,rfl,h.2,h.1,rfl⟩
  have hu:Po.Row F u l:=hx.l
  have hpu:Pd.Row F pu p.l:=hx.p
  have hok:=hu.ok
  have hpok:=hpu.ok
  have e2:=Po.tot_mk k p a v l
  have hll:=Po.length_le l
  have ih:∀ y∈l,∀ pA A,Po.At F y pA A→NCall Tryz.prog 38 [.agg (Po.cs y pA A),.int .i64 f,.int .i64 w] [hpB F] fun r m=>r = .bool (decide (w∈Po.vals f y))∧m=[hpB F] :=
   fun y hy pA A hA=>mc F f w hf n y pA A (by have:=Po.tot_lt (k:=k) (q:=p) (f:=a) (v:=v) hy;omega) (by have:=Po.tot_lt (k:=k) (q:=p) (f:=a) (v:=v) hy;omega) hA
  have ca:=lE F f w hf _ p pu (Nat.le_refl _) (by omega) hpu
  have hln:l.length≤4611686018427387904:=by omega
  have e:(w∈Po.vals f (.mk k p a v l))↔(k=2∧a=f∧v=w)∨w∈Pd.vals f p∨w∈Po.valsL f l:=by
   rw [Po.vals,List.mem_append,List.mem_append,Pd.values_mem,or_assoc]
   refine or_congr ?_ Iff.rfl
   split
   ·rename_i h
    rw [List.mem_singleton]
    exact ⟨fun e=>⟨h.1,h.2,e.symm⟩,fun e=>e.2.2.symm⟩
   ·rename_i h
    simp only [List.not_mem_nil,false_iff]
    exact fun e=>h ⟨e.1,e.2.1⟩
  have e':decide (w∈Po.vals f (.mk k p a v l))=decide ((k=2∧a=f∧v=w)∨w∈Pd.vals f p∨w∈Po.valsL f l):=decide_eq_decide.2 e
  rw [e']
  clear e e' hx hs hn e2 hll
  rw [ax]
  obtain ⟨pk,pf,pv,pl⟩:=p
  simp only [ab,Pd.T.k,Pd.T.f,Pd.T.v,Pd.T.l] at *
  refine aA Tryz.func38 rfl (by decide) ?_
  by_cases h1:k=2∧a=f∧v=w
  ·obtain ⟨rfl,rfl,rfl⟩:=h1
   clear ih
   repeat' first|((first|intro A B hA hB|intro K hK|skip);first|((with_reducible refine NIf.yes ?s ?_);(case s=>simp ;done);conv=>whnf)|((with_reducible refine NIf.no ?s ?_);(case s=>simp ;done);conv=>whnf))|(refine sxZ ?_;(try clear hK K);try clear hA hB A B)|refine sxW ?_ ?_<;>intro _|(intro K hK _;conv=>whnf)
   all_goals exact ⟨by simp,MemFits.pre 1 rfl⟩
  by_cases hq:w∈Pd.vals f (.mk pk pf pv pl)
  ·rw [decide_eq_true hq] at ca
   clear ih
   rw [show decide (k=2∧a=f∧v=w∨w∈Pd.vals f (.mk pk pf pv pl)∨w∈Po.valsL f l)=true from decide_eq_true (.inr (.inl hq))]
   by_cases hk:k=2
   ·by_cases ha:a=f
    ·have hv:v≠w:=fun e=>h1 ⟨hk,ha,e⟩
     subst hk ha
     repeat' first|((try intro K hK);(with_reducible refine gC ?_);refine cS [0] ca ?_)|((first|intro A B hA hB|intro K hK|skip);first|((with_reducible refine NIf.yes ?s ?_);(case s=>simp [hv];done);conv=>whnf)|((with_reducible refine NIf.no ?s ?_);(case s=>simp [hv];done);conv=>whnf))|(refine sxZ ?_;(try clear hK K);try clear hA hB A B)|refine sxW ?_ ?_<;>intro _|(intro K hK _;conv=>whnf)
     all_goals exact ⟨rfl,MemFits.pre 1 rfl⟩
    ·repeat' first|((try intro K hK);(with_reducible refine gC ?_);refine cS [0] ca ?_)|((first|intro A B hA hB|intro K hK|skip);first|((with_reducible refine NIf.yes ?s ?_);(case s=>simp [ha];done);conv=>whnf)|((with_reducible refine NIf.no ?s ?_);(case s=>simp [ha];done);conv=>whnf))|(refine sxZ ?_;(try clear hK K);try clear hA hB A B)|refine sxW ?_ ?_<;>intro _|(intro K hK _;conv=>whnf)
     all_goals exact ⟨rfl,MemFits.pre 1 rfl⟩
   ·repeat' first|((try intro K hK);(with_reducible refine gC ?_);refine cS [0] ca ?_)|((first|intro A B hA hB|intro K hK|skip);first|((with_reducible refine NIf.yes ?s ?_);(case s=>simp [hk];done);conv=>whnf)|((with_reducible refine NIf.no ?s ?_);(case s=>simp [hk];done);conv=>whnf))|(refine sxZ ?_;(try clear hK K);try clear hA hB A B)|refine sxW ?_ ?_<;>intro _|(intro K hK _;conv=>whnf)
    all_goals exact ⟨rfl,MemFits.pre 1 rfl⟩
  ·rw [decide_eq_false hq] at ca
   rw [show decide (k=2∧a=f∧v=w∨w∈Pd.vals f (.mk pk pf pv pl)∨w∈Po.valsL f l)=decide (w∈Po.valsL f l) from decide_eq_decide.2 ⟨fun h=>(h.resolve_left h1).resolve_left hq,fun h=>.inr (.inr h)⟩]
   by_cases hk:k=2
   ·by_cases ha:a=f
    ·have hv:v≠w:=fun e=>h1 ⟨hk,ha,e⟩
     subst hk ha
     repeat' first|((try intro K hK);(with_reducible refine gC ?_);refine cS [0] ca ?_)|((first|intro A B hA hB|intro K hK|skip);first|((with_reducible refine NIf.yes ?s ?_);(case s=>simp [hv];done);conv=>whnf)|((with_reducible refine NIf.no ?s ?_);(case s=>simp [hv];done);conv=>whnf))|(refine sxZ ?_;(try clear hK K);try clear hA hB A B)|refine sxW ?_ ?_<;>intro _|(intro K hK _;conv=>whnf)
     refine aD (α:=Nat) (fun i=>i≤l.length∧¬ w∈Po.valsL a (l.take i)) (fun i=>[.k,.k,.k,.k,.k,.k,.set (.bool false),.set (.int .i64 i),.k,.k,.k,.k,.k,.k,.k,.k,.k,.k,.k,.k,.k,.k,.k,.k,.k,.k,.k,.k,.k,.k,.d,.d,.d,.d,.d,.d,.d,.d,.d,.d,.d,.d,.d,.d,.d]) (fun _=>[]) (fun i=>l.length - i) 0 ⟨Nat.zero_le _,by simp [Po.valsL]⟩ ?_ (MemFits.eq rfl) ?_
     ·exact aC
     (intro i ⟨hi,hno⟩;intro K hK;(conv=>whnf);refine hK _ _ ?_;clear hK K)
     by_cases hlt:i<l.length
     ·have hx:l[i]?=some l[i]:=List.getElem?_eq_getElem hlt
      obtain ⟨pA,pcap,A,cap,hA,c0,c1,c2,c3,c4,c5,c6,c7⟩:=hu.get hx
      have hAo:=hA.l.ok
      have hAp:=hA.p.ok
      have hmem:=List.mem_of_getElem? hx
      have c:=ih _ hmem _ _ hA
      have hnx:=Po.valsL_take a hlt
      have hyes:w∈Po.vals a l[i]→w∈Po.valsL a l:=fun hw=>by
       have e:=Po.valsL_append a (l.take (i+1)) (l.drop (i+1))
       rw [List.take_append_drop,hnx] at e
       rw [e]
       exact List.mem_append_left _ (List.mem_append_right _ hw)
      have hnext:¬ w∈Po.vals a l[i]→¬ w∈Po.valsL a (l.take (i+1)):=fun h1 h2=>by
       rw [hnx] at h2
       rcases List.mem_append.1 h2 with h2 | h2
       ·exact hno h2
       ·exact h1 h2
      clear ih hnx ca
      generalize l[i]=y at *
      by_cases hw:w∈Po.vals a y
      ·rw [decide_eq_true hw] at c
       have hy:=hyes hw
       clear hyes hnext hw
       obtain ⟨yk,⟨ypk,ypf,ypv,ypl⟩,yf,yv,yl⟩:=y
       simp only [Po.cs,Po.T.k,Po.T.p,Po.T.f,Po.T.v,Po.T.l,Pd.T.k,Pd.T.f,Pd.T.v,Pd.T.l] at c c0 c1 c2 c3 c4 c5 c6 c7 hAo hAp
       repeat' first|(intro K hK;(with_reducible refine gC ?_);refine cS [0] c ?_)|(refine sxZ ?_;try clear hK K)|refine sxW ?_ ?_<;>intro _|(intro K hK _;conv=>whnf)
       all_goals exact ⟨by rw [decide_eq_true hy],MemFits.pre 1 rfl⟩
      ·rw [decide_eq_false hw] at c
       have hy:=hnext hw
       clear hyes hnext hw
       obtain ⟨yk,⟨ypk,ypf,ypv,ypl⟩,yf,yv,yl⟩:=y
       simp only [Po.cs,Po.T.k,Po.T.p,Po.T.f,Po.T.v,Po.T.l,Pd.T.k,Pd.T.f,Pd.T.v,Pd.T.l] at c c0 c1 c2 c3 c4 c5 c6 c7 hAo hAp
       repeat' first|(intro K hK;(with_reducible refine gC ?_);refine cS [0] c ?_)|(refine sxZ ?_;try clear hK K)|refine sxW ?_ ?_<;>intro _|(intro K hK _;conv=>whnf)
       refine aB (i+1) ⟨hlt,hy⟩ (by omega) ?_ (MemFits.eq rfl)
       exact aC
     ·have hkl:i=l.length:=by omega
      subst hkl
      rw [List.take_length] at hno
      clear ih
      repeat' first|(refine sxZ ?_;try clear hK K)|refine sxW ?_ ?_<;>intro _|(intro K hK _;conv=>whnf)
      all_goals exact ⟨by rw [decide_eq_false hno],MemFits.pre 1 rfl⟩
    ·repeat' first|((try intro K hK);(with_reducible refine gC ?_);refine cS [0] ca ?_)|((first|intro A B hA hB|intro K hK|skip);first|((with_reducible refine NIf.yes ?s ?_);(case s=>simp [ha];done);conv=>whnf)|((with_reducible refine NIf.no ?s ?_);(case s=>simp [ha];done);conv=>whnf))|(refine sxZ ?_;(try clear hK K);try clear hA hB A B)|refine sxW ?_ ?_<;>intro _|(intro K hK _;conv=>whnf)
     refine aD (α:=Nat) (fun i=>i≤l.length∧¬ w∈Po.valsL f (l.take i)) (fun i=>[.k,.k,.k,.k,.k,.k,.set (.bool false),.set (.int .i64 i),.k,.k,.k,.k,.k,.k,.k,.k,.k,.k,.k,.k,.k,.k,.k,.k,.k,.k,.k,.k,.k,.k,.d,.d,.d,.d,.d,.d,.d,.d,.d,.d,.d,.d,.d,.d,.d]) (fun _=>[]) (fun i=>l.length - i) 0 ⟨Nat.zero_le _,by simp [Po.valsL]⟩ ?_ (MemFits.eq rfl) ?_
     ·exact aC
     (intro i ⟨hi,hno⟩;intro K hK;(conv=>whnf);refine hK _ _ ?_;clear hK K)
     by_cases hlt:i<l.length
     ·have hx:l[i]?=some l[i]:=List.getElem?_eq_getElem hlt
      obtain ⟨pA,pcap,A,cap,hA,c0,c1,c2,c3,c4,c5,c6,c7⟩:=hu.get hx
      have hAo:=hA.l.ok
      have hAp:=hA.p.ok
      have hmem:=List.mem_of_getElem? hx
      have c:=ih _ hmem _ _ hA
      have hnx:=Po.valsL_take f hlt
      have hyes:w∈Po.vals f l[i]→w∈Po.valsL f l:=fun hw=>by
       have e:=Po.valsL_append f (l.take (i+1)) (l.drop (i+1))
       rw [List.take_append_drop,hnx] at e
       rw [e]
       exact List.mem_append_left _ (List.mem_append_right _ hw)
      have hnext:¬ w∈Po.vals f l[i]→¬ w∈Po.valsL f (l.take (i+1)):=fun h1 h2=>by
       rw [hnx] at h2
       rcases List.mem_append.1 h2 with h2 | h2
       ·exact hno h2
       ·exact h1 h2
      clear ih hnx ca
      generalize l[i]=y at *
      by_cases hw:w∈Po.vals f y
      ·rw [decide_eq_true hw] at c
       have hy:=hyes hw
       clear hyes hnext hw
       obtain ⟨yk,⟨ypk,ypf,ypv,ypl⟩,yf,yv,yl⟩:=y
       simp only [Po.cs,Po.T.k,Po.T.p,Po.T.f,Po.T.v,Po.T.l,Pd.T.k,Pd.T.f,Pd.T.v,Pd.T.l] at c c0 c1 c2 c3 c4 c5 c6 c7 hAo hAp
       repeat' first|(intro K hK;(with_reducible refine gC ?_);refine cS [0] c ?_)|(refine sxZ ?_;try clear hK K)|refine sxW ?_ ?_<;>intro _|(intro K hK _;conv=>whnf)
       all_goals exact ⟨by rw [decide_eq_true hy],MemFits.pre 1 rfl⟩
      ·rw [decide_eq_false hw] at c
       have hy:=hnext hw
       clear hyes hnext hw
       obtain ⟨yk,⟨ypk,ypf,ypv,ypl⟩,yf,yv,yl⟩:=y
       simp only [Po.cs,Po.T.k,Po.T.p,Po.T.f,Po.T.v,Po.T.l,Pd.T.k,Pd.T.f,Pd.T.v,Pd.T.l] at c c0 c1 c2 c3 c4 c5 c6 c7 hAo hAp
       repeat' first|(intro K hK;(with_reducible refine gC ?_);refine cS [0] c ?_)|(refine sxZ ?_;try clear hK K)|refine sxW ?_ ?_<;>intro _|(intro K hK _;conv=>whnf)
       refine aB (i+1) ⟨hlt,hy⟩ (by omega) ?_ (MemFits.eq rfl)
       exact aC
     ·have hkl:i=l.length:=by omega
      subst hkl
      rw [List.take_length] at hno
      clear ih
      repeat' first|(refine sxZ ?_;try clear hK K)|refine sxW ?_ ?_<;>intro _|(intro K hK _;conv=>whnf)
      all_goals exact ⟨by rw [decide_eq_false hno],MemFits.pre 1 rfl⟩
   ·repeat' first|((try intro K hK);(with_reducible refine gC ?_);refine cS [0] ca ?_)|((first|intro A B hA hB|intro K hK|skip);first|((with_reducible refine NIf.yes ?s ?_);(case s=>simp [hk];done);conv=>whnf)|((with_reducible refine NIf.no ?s ?_);(case s=>simp [hk];done);conv=>whnf))|(refine sxZ ?_;(try clear hK K);try clear hA hB A B)|refine sxW ?_ ?_<;>intro _|(intro K hK _;conv=>whnf)
    refine aD (α:=Nat) (fun i=>i≤l.length∧¬ w∈Po.valsL f (l.take i)) (fun i=>[.k,.k,.k,.k,.k,.k,.set (.bool false),.set (.int .i64 i),.k,.k,.k,.k,.k,.k,.k,.k,.k,.k,.k,.k,.k,.k,.k,.k,.k,.k,.k,.k,.k,.k,.d,.d,.d,.d,.d,.d,.d,.d,.d,.d,.d,.d,.d,.d,.d]) (fun _=>[]) (fun i=>l.length - i) 0 ⟨Nat.zero_le _,by simp [Po.valsL]⟩ ?_ (MemFits.eq rfl) ?_
    ·exact aC
    (intro i ⟨hi,hno⟩;intro K hK;(conv=>whnf);refine hK _ _ ?_;clear hK K)
    by_cases hlt:i<l.length
    ·have hx:l[i]?=some l[i]:=List.getElem?_eq_getElem hlt
     obtain ⟨pA,pcap,A,cap,hA,c0,c1,c2,c3,c4,c5,c6,c7⟩:=hu.get hx
     have hAo:=hA.l.ok
     have hAp:=hA.p.ok
     have hmem:=List.mem_of_getElem? hx
     have c:=ih _ hmem _ _ hA
     have hnx:=Po.valsL_take f hlt
     have hyes:w∈Po.vals f l[i]→w∈Po.valsL f l:=fun hw=>by
      have e:=Po.valsL_append f (l.take (i+1)) (l.drop (i+1))
      rw [List.take_append_drop,hnx] at e
      rw [e]
      exact List.mem_append_left _ (List.mem_append_right _ hw)
     have hnext:¬ w∈Po.vals f l[i]→¬ w∈Po.valsL f (l.take (i+1)):=fun h1 h2=>by
      rw [hnx] at h2
      rcases List.mem_append.1 h2 with h2 | h2
      ·exact hno h2
      ·exact h1 h2
     clear ih hnx ca
     generalize l[i]=y at *
     by_cases hw:w∈Po.vals f y
     ·rw [decide_eq_true hw] at c
      have hy:=hyes hw
      clear hyes hnext hw
      obtain ⟨yk,⟨ypk,ypf,ypv,ypl⟩,yf,yv,yl⟩:=y
      simp only [Po.cs,Po.T.k,Po.T.p,Po.T.f,Po.T.v,Po.T.l,Pd.T.k,Pd.T.f,Pd.T.v,Pd.T.l] at c c0 c1 c2 c3 c4 c5 c6 c7 hAo hAp
      repeat' first|(intro K hK;(with_reducible refine gC ?_);refine cS [0] c ?_)|(refine sxZ ?_;try clear hK K)|refine sxW ?_ ?_<;>intro _|(intro K hK _;conv=>whnf)
      all_goals exact ⟨by rw [decide_eq_true hy],MemFits.pre 1 rfl⟩
     ·rw [decide_eq_false hw] at c
      have hy:=hnext hw
      clear hyes hnext hw
      obtain ⟨yk,⟨ypk,ypf,ypv,ypl⟩,yf,yv,yl⟩:=y
      simp only [Po.cs,Po.T.k,Po.T.p,Po.T.f,Po.T.v,Po.T.l,Pd.T.k,Pd.T.f,Pd.T.v,Pd.T.l] at c c0 c1 c2 c3 c4 c5 c6 c7 hAo hAp
      repeat' first|(intro K hK;(with_reducible refine gC ?_);refine cS [0] c ?_)|(refine sxZ ?_;try clear hK K)|refine sxW ?_ ?_<;>intro _|(intro K hK _;conv=>whnf)
      refine aB (i+1) ⟨hlt,hy⟩ (by omega) ?_ (MemFits.eq rfl)
      exact aC
    ·have hkl:i=l.length:=by omega
     subst hkl
     rw [List.take_length] at hno
     clear ih
     repeat' first|(refine sxZ ?_;try clear hK K)|refine sxW ?_ ?_<;>intro _|(intro K hK _;conv=>whnf)
     all_goals exact ⟨by rw [decide_eq_false hno],MemFits.pre 1 rfl⟩
end Go.Proofs.YtmehinfgdcmmjaaGreat
namespace Go.Sx
open Go.RowKit
section
variable {P:Program}
set_option linter.unusedVariables false
theorem jC (z:List AV) (n:Nat) (hz:0<z.length):(Builtin.zeroCells (denL z).toArray n).toList=denL (repCells z n):=by
 unfold Builtin.zeroCells
 have h:=lQ z n (.inl hz)
 rw [show (denL z).toArray.size=z.length by simp [aE]] at h ⊢
 rw [h]
theorem jA (g off:Nat):(⟨g,0,none⟩:Addr).add off=⟨g,off,none⟩:=by
 unfold Addr.add
 split<;>simp_all
theorem nI {m:List Blk} {w:World} (hm:MemOk m w) {j:Nat} {a:Addr} {cs:List AV} {v:Value} {t:TypeId} {sz n:Nat} (hj:m[j]?=some ⟨a,cs,.row v t sz n⟩) (hn:0<n) {off:Nat} {xs:List AV} (hlen:off+xs.length≤cs.length) (hones:ones xs=true) :
  ∃ w',(storeCells (a.add off) (denL xs)).run P w = .ok () w'∧MemOk (m.set j ⟨a,cs.take off++xs++cs.drop (off+xs.length),.row v t sz n⟩) w'∧Fr (wrs m) w w'∧Fresh (own m) w (m.set j ⟨a,cs.take off++xs++cs.drop (off+xs.length),.row v t sz n⟩):=by
 have hmem:=List.mem_of_getElem? hj
 have hh:=hm.holds _ hmem
 have hwr:(⟨a,cs,.row v t sz n⟩:Blk).wr=true:=rfl
 unfold Blk.holds at hh
 obtain ⟨⟨h5,h6⟩,h7⟩:=hh
 rcases h6 with ⟨hv,h0⟩ | ⟨g,cap,cur,hv,hbg,hg,hc1,hc2,hc3,hc4⟩
 ·exact absurd h0 (by omega)
 ·dsimp only at h5 h7 hc4
  have hba:a=⟨g,0,none⟩:=by rw [h7,hv];rfl
  have hbn:(⟨a,cs,.row v t sz n⟩:Blk).bn=some g:=by simp [Blk.bn,hv,Value.ownBlock]
  have hlc:cs.length≤cur.size:=by
   have:=congrArg List.length hc4
   rw [aE] at h5
   simp [aE] at this
   omega
  have hst:=run_storeCells_at P g off t (denL xs) 0 cur w hg (by rw [aE];omega) (eW hones)
  have hadd:a.add off=⟨g,off,none⟩:=by rw [hba];exact jA g off
  refine ⟨w.setRow g (cur.toList.take (off+0)++denL xs++cur.toList.drop (off+0+(denL xs).length)).toArray,?_,?_,?_,?_⟩
  ·rw [hadd];exact hst
  ·refine hm.set (by simp) hj hwr (fun c hc hlt=>setRow_other w g c _ (fun e=>hc (by rw [hbn,e]))) ?_ rfl (.inr (.inl ?_))
   ·unfold Blk.holds
    dsimp only
    have hl2:(cs.take off++xs++cs.drop (off+xs.length)).length=cs.length:=by simp;omega
    have hcs:(denL cs).length=n*sz:=h5
    have e1:denL (cs.take off++xs++cs.drop (off+xs.length))=(denL cs).take off++denL xs++(denL cs).drop (off+(denL xs).length):=by simp [bB]
    have e2:cur.toList=denL cs++cur.toList.drop cs.length:=by
     have:cur.toList.take cs.length=denL cs:=by rw [← aE,h5];exact hc4
     rw [← this];exact (List.take_append_drop _ _).symm
    refine ⟨⟨by rw [aE,hl2,← aE];exact h5,.inr ⟨g,cap,_,hv,hbg,setRow_heap w g _ _ t _ hg,hc1,hc2,?_,?_⟩⟩,h7⟩
    ·simp [aE];omega
    ·rw [e1,← hcs,Nat.add_zero,e2]
     exact fW _ _ _ _ (by rw [aE,aE];exact hlen)
   ·rfl
  ·refine (Fr.refl (wrs m) w).then (Fr.setRow w g _) fun i hi=>?_
   subst hi
   exact .inl ⟨_,hmem,hwr,hbn⟩
  ·exact (Fresh.self _ _).set rfl fun c hc=>.inl ⟨_,hmem,hwr,hc⟩
theorem NMap.clear {m:List Blk} {K:AV→List Blk→Prop} {j:Nat} {a:Addr} {cs:List AV} {v:Value} {st e t ty:TypeId} {sz n i:Nat} {z:AV} (hj:m[j]?=some ⟨a,cs,.row v t sz n⟩) (hu:P.underlying st=some (.slice e)) (hz:zeroT P e=some z) (hzl:z.cells.length=sz) (h0:0<sz) (ho:ones z.cells=true)
  (hcs:cs.length=n*sz) (hi:i<n) (hK:setBlkK m j ⟨a,cs.take (i*sz)++repCells z.cells (n - i),.row v t sz n⟩ (K (.tup []))):NMap P (Builtin.clear_ #[st] ty #[cutSl v sz i n]) m K:=by
 have hK:=(aX hK).2
 rw [dM]
 intro w hm
 have hh:=hm.holds _ (List.mem_of_getElem? hj)
 unfold Blk.holds at hh
 obtain ⟨⟨h5,h6⟩,h7⟩:=hh
 rcases h6 with ⟨hv,h0⟩ | ⟨g,cap,cur,hv,hbg,hg,hc1,hc2,hc3,hc4⟩
 ·exact absurd h0 (by omega)
 dsimp only at h7
 have hones:ones (repCells z.cells (n - i))=true:=by
  have hap:∀ xs ys:List AV,ones xs=true→ones ys=true→ones (xs++ys)=true:=fun xs ys hx hy=>by
   induction xs with
   | nil=>exact hy
   | cons x xs ih=>cases x<;>simp_all [ones]
  generalize n - i=k
  induction k with
  | zero=>rfl
  | succ k ih=>exact hap _ _ ho ih
 have hrl:(repCells z.cells (n - i)).length=(n - i)*sz:=by rw [bG,hzl]
 have hmul:i*sz+(n - i)*sz=n*sz:=by rw [← Nat.add_mul];congr 1;omega
 obtain ⟨w',h1,h2,h3,h4⟩:=nI (P:=P) hm hj (by omega) (off:=i*sz) (xs:=repCells z.cells (n - i)) (by omega) hones
 have hd:cs.drop (i*sz+(repCells z.cells (n - i)).length)=[]:=by rw [List.drop_eq_nil_iff];omega
 rw [hd,List.append_nil] at h2 h4
 refine ⟨.tup [],_,w',?_,hK,h2,h3,h4⟩
 have hba:a=⟨g,0,none⟩:=by rw [h7,hv];rfl
 have hcut:cutSl v sz i n = .slice (some (a.add (i*sz))) (n - i) (cap - i):=by
  rw [hv,hba]
  unfold cutSl aw
  dsimp only
  rw [if_neg (by omega)]
  rfl
 rw [hcut]
 obtain ⟨k,hk⟩:∃ k,n - i=k+1:=⟨n - i - 1,by omega⟩
 have hzv:=dX (P:=P) hz w
 rw [← jC _ _ (by omega)] at h1
 rw [hk] at h1 ⊢
 simp only [Builtin.clear_,List.getElem?_toArray,List.getElem?_cons_zero,Sem.run_bind,run_underlying hu,Result.andThen_ok,hzv,au,h1,Sem.run_pure]
 rfl
end
end Go.Sx
