import Derived.Test.YtmehinfgdcmmjaaGreatJ1
import Derived.Test.YtmehinfgdcmmjaaGreatJ8
namespace Go.Proofs.YtmehinfgdcmmjaaGreat
open Go.Sx
set_option maxRecDepth 20000
set_option maxHeartbeats 4000000
set_option linter.unusedVariables false
namespace Pd
def psC (ps:List (T × Value)):List AV:=ps.flatMap fun p=>cs p.1 p.2
def psV (p:T × Value):List Value:=denL (cs p.1 p.2)
theorem psC_den:∀ ps,denL (psC ps)=ps.flatMap psV
 | []=>rfl
 | p::ps=>by
  have:=psC_den ps
  unfold psC at *
  rw [List.flatMap_cons,List.flatMap_cons,aQ,this]
  rfl
theorem psC_len (ps:List (T × Value)):(psC ps).length=ps.length*4:=by
 induction ps with
 | nil=>rfl
 | cons p ps ih =>
  unfold psC at *
  rw [List.flatMap_cons,List.length_append,ih,List.length_cons]
  show 4+_=_
  omega
theorem psC_next (ps:List (T × Value)) (p:T × Value):psC (ps++[p])=psC ps++cs p.1 p.2:=by
 unfold psC
 rw [List.flatMap_append]
 simp
def Got (F:Heap) (t:TypeId) (X:T) (v:AV) (m:List Blk):Prop :=
 ∃ G u,∃ ps:List (T × Value),F.le G∧ps.map (·.1)=X.l∧(∀ p∈ps,Row G p.2 p.1.l)∧v.den=(AV.agg (cs X u)).den∧MemFits m [hpB G,⟨addrOf u,psC ps,.row u t 4 ps.length⟩]
theorem row_of {G:Heap} {u:Value} {ps:List (T × Value)} (h:aH G 4 (fun p vs=>vs=psV p) u ps) (hall:∀ p∈ps,Row G p.2 p.1.l):Row G u (ps.map (·.1)):=by
 refine ⟨by rw [List.length_map];exact h.ok,fun k x hx=>?_⟩
 rw [List.getElem?_map] at hx
 cases hp:ps[k]? with
 | none=>rw [hp] at hx;cases hx
 | some p =>
  rw [hp] at hx
  simp only [Option.map_some,Option.some.injEq] at hx
  subst hx
  obtain ⟨vs,h1,h2,h3⟩:=h.at_ k p hp
  have hr:=hall p (List.mem_of_getElem? hp)
  refine ⟨vs,?_,h2,h3⟩
  obtain ⟨A,cap,hv,hle,hz⟩:=hr.ok
  rw [h1]
  obtain ⟨x,w⟩:=p
  dsimp only at hv hr ⊢
  subst hv
  exact R.of hr
abbrev Lays (F:Heap) (X:T) (r:AV) (m:List Blk):Prop:=∃ F' u,F.le F'∧Row F' u X.l∧r = .agg (cs X u)∧m=[hpB F']
end Pd
set_option linter.unusedSimpArgs false
section
variable (F:Heap)
theorem nv (v w:Value) (a b:List Pd.T) (hv:Pd.Row F v a) (hw:Pd.Row F w b) (ha:a.length≤4611686018427387904) (hb:b.length≤4611686018427387904) (g:FuncId)
  (hg:∀ x∈a,∀ y∈b,∀ A B,Pd.Row F A x.l→Pd.Row F B y.l→NCall Tryz.prog g [.agg (Pd.cs x A),.agg (Pd.cs y B)] [hpB F] fun r m=>r = .bool (Pd.same x y)∧m=[hpB F]) :
  NCall Tryz.prog 189 [.hs v a.length,.hs w b.length,.fn g [] []] [hpB F] fun r m=>r = .bool (Pd.sameL a b)∧m=[hpB F]:=by
 refine NCall.fits (K:=fun r m=>r = .bool (Pd.sameL a b)∧MemFits m [hpB F]) ?_ fun r m' h=>⟨r,_,rfl,h.2,h.1,rfl⟩
 have hok:=hv.ok
 have hok2:=hw.ok
 have hs:=Pd.sameL_iff a b
 refine aA Tryz.func189 rfl (by decide) ?_
 by_cases hl:a.length=b.length
 ·repeat' first|(refine sxZ ?_;try clear hK K)|refine sxW ?_ ?_<;>intro _|(intro K hK _;conv=>whnf)
  refine aD (α:=Nat) (fun k=>k≤a.length∧∀ (j:Nat) (x y:Pd.T),j<k→a[j]?=some x→b[j]?=some y→Pd.same x y=true) (fun k=>[.k,.k,.k,.k,.k,.k,.d,.d,.d,.d,.k,.k,.k,.k,.k,.k,.k,.set (.int .i64 k),.d,.d,.d,.d,.d,.d,.d,.d,.d,.d,.d,.d,.d,.d]) (fun _=>[]) (fun k=>a.length - k) 0 ⟨Nat.zero_le _,fun j x y hj=>absurd hj (Nat.not_lt_zero _)⟩ ?_ (MemFits.eq rfl) ?_
  ·exact aC
  (intro k ⟨hk,hgone⟩;intro K hK;(conv=>whnf);refine hK _ _ ?_;clear hK K)
  by_cases hlt:k<a.length
  ·have hx:a[k]?=some a[k]:=List.getElem?_eq_getElem hlt
   have hy:b[k]?=some (b[k]'(by omega)):=List.getElem?_eq_getElem (by omega)
   obtain ⟨A,cap,hA,c0,c1,c2,c3⟩:=hv.get hx
   obtain ⟨B,cap',hB,d0,d1,d2,d3⟩:=hw.get hy
   have c:=hg _ (List.mem_of_getElem? hx) _ (List.mem_of_getElem? hy) _ _ hA hB
   generalize a[k]=x at *
   generalize (b[k]'(by omega))=y at *
   simp only [Pd.cs] at c
   by_cases hq:Pd.same x y=true
   ·rw [hq] at c
    repeat' first|(intro K hK;(with_reducible refine gC ?_);refine cS [0] c ?_)|(refine sxZ ?_;try clear hK K)|refine sxW ?_ ?_<;>intro _|(intro K hK _;conv=>whnf)
    refine aB (k+1) ⟨hlt,fun j x' y' hj h1 h2=>?_⟩ (by omega) ?_ (MemFits.pre 1 rfl)
    ·by_cases e:j=k
     ·subst e
      rw [hx] at h1
      rw [hy] at h2
      injection h1 with h1
      injection h2 with h2
      rw [← h1,← h2];exact hq
     ·exact hgone j x' y' (by omega) h1 h2
    ·exact aC
   ·have hqf:Pd.same x y=false:=by simpa using hq
    rw [hqf] at c
    have hne:Pd.sameL a b=false:=by
     cases h:Pd.sameL a b with
     | false=>rfl
     | true=>exact (hq ((hs.1 h).2 k x y hx hy)).elim
    rw [hne]
    repeat' first|(intro K hK;(with_reducible refine gC ?_);refine cS [0] c ?_)|(refine sxZ ?_;try clear hK K)|refine sxW ?_ ?_<;>intro _|(intro K hK _;conv=>whnf)
    all_goals exact ⟨rfl,MemFits.pre 1 rfl⟩
  ·have hy:Pd.sameL a b=true:=hs.2 ⟨hl,fun j x y h1 h2=>hgone j x y (by have:=(List.getElem?_eq_some_iff.1 h1).1;omega) h1 h2⟩
   rw [hy]
   repeat' first|(refine sxZ ?_;try clear hK K)|refine sxW ?_ ?_<;>intro _|(intro K hK _;conv=>whnf)
   all_goals exact ⟨rfl,MemFits.pre 1 rfl⟩
 ·have hne:Pd.sameL a b=false:=by
   cases h:Pd.sameL a b with
   | false=>rfl
   | true=>exact (hl (hs.1 h).1).elim
  rw [hne]
  repeat' first|(refine sxZ ?_;try clear hK K)|refine sxW ?_ ?_<;>intro _|(intro K hK _;conv=>whnf)
  all_goals exact ⟨rfl,MemFits.pre 1 rfl⟩
theorem j5:∀ (n:Nat) (p q:Pd.T) (u w:Value),Pd.size p≤n→Pd.size p≤4611686018427387904→Pd.size q≤4611686018427387904→Pd.Row F u p.l→Pd.Row F w q.l →
  NCall Tryz.prog 166 [.agg (Pd.cs p u),.agg (Pd.cs q w)] [hpB F] fun r m=>r = .bool (Pd.same p q)∧m=[hpB F]
 | 0,p,q,u,w,hn,_,_,_,_=>absurd (Pd.size_pos p) (by omega)
 | n+1,⟨k,f,v,l⟩,⟨k',f',v',l'⟩,u,w,hn,hs,hs',hu,hw=>by
  refine NCall.fits (K:=fun r m=>r = .bool (Pd.same (.mk k f v l) (.mk k' f' v' l'))∧MemFits m [hpB F]) ?_ fun r m' h=>⟨r,_,rfl,h.2,h.1,rfl⟩
  have hu:Pd.Row F u l:=hu
  have hw:Pd.Row F w l':=hw
  have e:Pd.same (.mk k f v l) (.mk k' f' v' l')=(decide (k=k')&&decide (f=f')&&decide (v=v')&&Pd.sameL l l'):=by rw [Pd.same]
  have e2:Pd.size (.mk k f v l)=1+Pd.sizeL l:=by rw [Pd.size]
  have e3:Pd.size (.mk k' f' v' l')=1+Pd.sizeL l':=by rw [Pd.size]
  have hll:=Pd.length_le l
  have hll':=Pd.length_le l'
  have ce:=nv F u w l l' hu hw (by omega) (by omega) 166 fun x hx y hy A B hA hB=>j5 n x y A B (by have:=Pd.size_lt (k:=k) (f:=f) (v:=v) hx;omega) (by have:=Pd.size_lt (k:=k) (f:=f) (v:=v) hx;omega) (by have:=Pd.size_lt (k:=k') (f:=f') (v:=v') hy;omega) hA hB
  rw [e]
  generalize Pd.sameL l l'=sb at *
  refine aA Tryz.func166 rfl (by decide) ?_
  rw [ab,ab]
  by_cases h1:k=k'
  ·by_cases h2:f=f'
   ·by_cases h3:v=v'
    ·subst h1 h2 h3
     repeat' first|((try intro K hK);(with_reducible refine gC ?_);refine cS [0] ce ?_)|((first|intro A B hA hB|intro K hK|skip);first|((with_reducible refine NIf.yes ?s ?_);(case s=>simp ;done);conv=>whnf)|((with_reducible refine NIf.no ?s ?_);(case s=>simp ;done);conv=>whnf))|(refine sxZ ?_;(try clear hK K);try clear hA hB A B)|refine sxW ?_ ?_<;>intro _|(intro K hK _;conv=>whnf)
     all_goals exact ⟨by simp,MemFits.pre 1 rfl⟩
    ·subst h1 h2
     repeat' first|((first|intro A B hA hB|intro K hK|skip);first|((with_reducible refine NIf.yes ?s ?_);(case s=>simp [h3];done);conv=>whnf)|((with_reducible refine NIf.no ?s ?_);(case s=>simp [h3];done);conv=>whnf))|(refine sxZ ?_;(try clear hK K);try clear hA hB A B)|refine sxW ?_ ?_<;>intro _|(intro K hK _;conv=>whnf)
     all_goals exact ⟨by simp [h3],MemFits.pre 1 rfl⟩
   ·subst h1
    repeat' first|((first|intro A B hA hB|intro K hK|skip);first|((with_reducible refine NIf.yes ?s ?_);(case s=>simp [h2];done);conv=>whnf)|((with_reducible refine NIf.no ?s ?_);(case s=>simp [h2];done);conv=>whnf))|(refine sxZ ?_;(try clear hK K);try clear hA hB A B)|refine sxW ?_ ?_<;>intro _|(intro K hK _;conv=>whnf)
    all_goals exact ⟨by simp [h2],MemFits.pre 1 rfl⟩
  ·repeat' first|(refine sxZ ?_;try clear hK K)|refine sxW ?_ ?_<;>intro _|(intro K hK _;conv=>whnf)
   all_goals exact ⟨by simp [h1],MemFits.pre 1 rfl⟩
end
theorem mX {p:Prop} {_:Decidable p} (h:¬ p):AV.bool false = .bool (decide p):=by rw [decide_eq_false h]
section
variable (F:Heap)
theorem nF (k f v:Int) (l:List Pd.T) (u:Value) (hu:Pd.Row F u l):NCall Tryz.prog 187 [.agg (Pd.cs (.mk k f v l) u)] [hpB F] fun r m=>r = .bool (Pd.shape k f v l.length)∧m=[hpB F]:=by
 refine NCall.fits (K:=fun r m=>r = .bool (Pd.shape k f v l.length)∧MemFits m [hpB F]) ?_ fun r m' h=>⟨r,_,rfl,h.2,h.1,rfl⟩
 have hok:=hu.ok
 have ct:=mN f
 refine aA Tryz.func187 rfl (by decide) ?_
 rw [ab]
 unfold Pd.shape
 generalize Pd.top f=tf at *
 by_cases h3:k=3
 ·subst h3
  repeat' first|(intro K hK;(with_reducible refine gC ?_);refine cP ct ?_)|(refine aV [] ?_;try clear hK K)|refine sxW ?_ ?_<;>intro _|refine aW ?_ ?_|(intro K hK _;conv=>whnf)
  all_goals first
   | exact ⟨mX (by omega),MemFits.pre 1 rfl⟩
   | exact ⟨pdboolT (by omega),MemFits.pre 1 rfl⟩
   | (refine ⟨?_,MemFits.pre 1 rfl⟩;congr 1;apply decide_eq_decide.2;omega)
 ·repeat' first|(intro K hK;(with_reducible refine gC ?_);refine cP ct ?_)|(refine aV [] ?_;try clear hK K)|refine sxW ?_ ?_<;>intro _|refine aW ?_ ?_|(intro K hK _;conv=>whnf)
  all_goals first
   | exact ⟨mX (by omega),MemFits.pre 1 rfl⟩
   | exact ⟨pdboolT (by omega),MemFits.pre 1 rfl⟩
   | (refine ⟨?_,MemFits.pre 1 rfl⟩;congr 1;apply decide_eq_decide.2;omega)
   | (exfalso;omega)
theorem nl (q:Pd.T→Bool) (v:Value) (l:List Pd.T) (hv:Pd.Row F v l) (hn:l.length≤4611686018427387904) (g:FuncId) (first captured:List AV)
  (hg:∀ x∈l,∀ A,Pd.Row F A x.l→NCall Tryz.prog g (first++[.agg (Pd.cs x A)]++captured) [hpB F] fun r m=>r = .bool (q x)∧m=[hpB F]) :
  NCall Tryz.prog 191 [.hs v l.length,.fn g first captured] [hpB F] fun r m=>(∃ j:Int,r = .int .i64 j∧(0≤j↔l.any q=true))∧m=[hpB F]:=by
 have hok:=hv.ok
 refine aA Tryz.func191 rfl (by decide) ?_
 repeat' first|(refine sxZ ?_;try clear hK K)|refine sxW ?_ ?_<;>intro _|(intro K hK _;conv=>whnf)
 refine aD (α:=Nat) (fun k=>k≤l.length∧∀ (j:Nat) (x:Pd.T),j<k→l[j]?=some x→q x=false) (fun k=>[.k,.k,.k,.k,.d,.d,.k,.k,.set (.int .i64 k),.d,.d,.d,.d,.d,.d,.d,.d,.d,.d]) (fun _=>[]) (fun k=>l.length - k) 0 ⟨Nat.zero_le _,fun j x hj=>absurd hj (Nat.not_lt_zero _)⟩ ?_ (MemFits.eq rfl) ?_
 ·exact aC
 (intro k ⟨hk,hgone⟩;intro K hK;(conv=>whnf);refine hK _ _ ?_;clear hK K)
 by_cases hlt:k<l.length
 ·have hx:l[k]?=some l[k]:=List.getElem?_eq_getElem hlt
  obtain ⟨A,cap,hA,c0,c1,c2,c3⟩:=hv.get hx
  have hmem:=List.mem_of_getElem? hx
  have c:=hg _ hmem _ hA
  generalize l[k]=x at *
  simp only [Pd.cs] at c
  cases hq:q x with
  | false =>
   rw [hq] at c
   repeat' first|(intro K hK;(with_reducible refine gC ?_);refine cS [0] c ?_)|(refine sxZ ?_;try clear hK K)|refine sxW ?_ ?_<;>intro _|(intro K hK _;conv=>whnf)
   refine aB (k+1) ⟨hlt,fun j y hj hy=>?_⟩ (by omega) ?_ (MemFits.eq rfl)
   ·by_cases e:j=k
    ·subst e
     rw [hx] at hy
     injection hy with hy
     rw [← hy];exact hq
    ·exact hgone j y (by omega) hy
   ·exact aC
  | true =>
   rw [hq] at c
   repeat' first|(intro K hK;(with_reducible refine gC ?_);refine cS [0] c ?_)|(refine sxZ ?_;try clear hK K)|refine sxW ?_ ?_<;>intro _|(intro K hK _;conv=>whnf)
   exact ⟨⟨_,rfl,⟨fun _=>List.any_eq_true.2 ⟨x,hmem,hq⟩,fun _=>by omega⟩⟩,rfl⟩
 ·have hno:¬ l.any q=true:=fun h=>by
   obtain ⟨x,hx,hq⟩:=List.any_eq_true.1 h
   obtain ⟨j,hj,e⟩:=List.getElem_of_mem hx
   have:=hgone j x (by omega) (by rw [← e];exact List.getElem?_eq_getElem hj)
   rw [this] at hq
   cases hq
  repeat' first|(refine sxZ ?_;try clear hK K)|refine sxW ?_ ?_<;>intro _|(intro K hK _;conv=>whnf)
  exact ⟨⟨_,rfl,⟨fun h=>by omega,fun h=>(hno h).elim⟩⟩,rfl⟩
theorem bz (q:Pd.T→Bool) (v:Value) (l:List Pd.T) (hv:Pd.Row F v l) (hn:l.length≤4611686018427387904) (g:FuncId) (first captured:List AV)
  (hg:∀ x∈l,∀ A,Pd.Row F A x.l→NCall Tryz.prog g (first++[.agg (Pd.cs x A)]++captured) [hpB F] fun r m=>r = .bool (q x)∧m=[hpB F]) :
  NCall Tryz.prog 173 [.hs v l.length,.fn g first captured] [hpB F] fun r m=>r = .bool (l.any q)∧m=[hpB F]:=by
 have hi:=nl F q v l hv hn g first captured hg
 refine aA Tryz.func173 rfl (by decide) ?_
 repeat' first|(intro K hK;(with_reducible refine gC ?_);(refine cN [0] hi ?_;rintro _ _ ⟨⟨j,rfl,hj⟩,rfl⟩;refine cR ?_))|(refine sxZ ?_;try clear hK K)|refine sxW ?_ ?_<;>intro _|(intro K hK _;conv=>whnf)
 all_goals
  refine ⟨?_,rfl⟩
  congr 1
  by_cases h:0≤j
  ·rw [hj.1 h];exact decide_eq_true h
  ·rw [show l.any q=false by cases e:l.any q with | false=>rfl | true=>exact (h (hj.2 e)).elim];exact decide_eq_false h
end
theorem Pd.any_fits (l:List Pd.T):(l.any fun x=>!Pd.fits x)=!Pd.fitsL l:=by
 induction l with
 | nil=>rfl
 | cons p l ih=>rw [List.any_cons,ih,Pd.fitsL];cases Pd.fits p<;>simp
section
variable (F:Heap)
theorem ml:∀ (n:Nat) (p:Pd.T) (u:Value),Pd.size p≤n→Pd.size p≤4611686018427387904→Pd.Row F u p.l →
  NCall Tryz.prog 165 [.agg (Pd.cs p u)] [hpB F] fun r m=>r = .bool (Pd.fits p)∧m=[hpB F]
 | 0,p,u,hn,_,_=>absurd (Pd.size_pos p) (by omega)
 | n+1,⟨k,f,v,l⟩,u,hn,hs,hu=>by
  refine NCall.fits (K:=fun r m=>r = .bool (Pd.fits (.mk k f v l))∧MemFits m [hpB F]) ?_ fun r m' h=>⟨r,_,rfl,h.2,h.1,rfl⟩
  have hu:Pd.Row F u l:=hu
  have hll:=Pd.length_le l
  have e2:Pd.size (.mk k f v l)=1+Pd.sizeL l:=by rw [Pd.size]
  have ih:∀ x∈l,∀ A,Pd.Row F A x.l→NCall Tryz.prog 188 ([]++[.agg (Pd.cs x A)]++[]) [hpB F] fun r m=>r = .bool (!Pd.fits x)∧m=[hpB F]:=fun x hx A hA=>by
   have c:=ml n x A (by have:=Pd.size_lt (k:=k) (f:=f) (v:=v) hx;omega) (by have:=Pd.size_lt (k:=k) (f:=f) (v:=v) hx;omega) hA
   refine NCall.fits (K:=fun r m=>r = .bool (!Pd.fits x)∧MemFits m [hpB F]) ?_ fun r m' h=>⟨r,_,rfl,h.2,h.1,rfl⟩
   generalize Pd.fits x=b at *
   simp only [Pd.cs] at *
   refine aA Tryz.func188 rfl (by decide) ?_
   repeat' first|(intro K hK;(with_reducible refine gC ?_);refine cS [0] c ?_)|(refine sxZ ?_;try clear hK K)|refine sxW ?_ ?_<;>intro _|(intro K hK _;conv=>whnf)
   all_goals exact ⟨rfl,MemFits.pre 1 rfl⟩
  have cc:=bz F (fun x=>!Pd.fits x) u l hu (by omega) _ [] [] ih
  rw [Pd.any_fits] at cc
  have cs:=nF F k f v l u hu
  rw [Pd.fits]
  generalize Pd.shape k f v l.length=sb at *
  generalize Pd.fitsL l=fb at *
  rw [ab] at *
  refine aA Tryz.func165 rfl (by decide) ?_
  cases sb
  ·repeat' first|(intro K hK;(with_reducible refine gC ?_);refine cS [0] cs ?_)|(refine sxZ ?_;try clear hK K)|refine sxW ?_ ?_<;>intro _|(intro K hK _;conv=>whnf)
   all_goals exact ⟨rfl,MemFits.pre 1 rfl⟩
  ·repeat' first|(intro K hK;(with_reducible refine gC ?_);first|refine cS [0] cs ?_|refine cS [0] cc ?_)|(refine sxZ ?_;try clear hK K)|refine sxW ?_ ?_<;>intro _|(intro K hK _;conv=>whnf)
   all_goals exact ⟨by cases fb<;>rfl,MemFits.pre 1 rfl⟩
theorem nK (p:Pd.T) (u:Value) (hs:Pd.size p≤4611686018427387904) (hu:Pd.Row F u p.l):NCall Tryz.prog 131 [.agg (Pd.cs p u)] [hpB F] fun r m=>r = .bool (Pd.right p)∧m=[hpB F]:=by
 refine NCall.fits (K:=fun r m=>r = .bool (Pd.right p)∧MemFits m [hpB F]) ?_ fun r m' h=>⟨r,_,rfl,h.2,h.1,rfl⟩
 have c1:=gU F _ p u (Nat.le_refl _) hs hu
 have c2:=kq F _ p u (Nat.le_refl _) hs hu
 have c3:=ml F _ p u (Nat.le_refl _) hs hu
 have hd:=Pd.deep_size p
 unfold Pd.right
 generalize Pd.fits p=fb at *
 generalize Pd.size p=sz at *
 generalize Pd.deep p=dp at *
 simp only [Pd.cs] at *
 refine aA Tryz.func131 rfl (by decide) ?_
 repeat' first|(intro K hK;(with_reducible refine gC ?_);first|refine cS [0] c1 ?_|refine cS [0] c2 ?_|refine cS [0] c3 ?_)|(refine sxZ ?_;try clear hK K)|refine sxW ?_ ?_<;>intro _|(intro K hK _;conv=>whnf)
 all_goals
  refine ⟨?_,MemFits.pre 1 rfl⟩
  congr 1
  first
   | (rw [show decide (sz≤64)=true from decide_eq_true (by omega),show decide (dp≤8)=true from decide_eq_true (by omega)];simp;done)
   | (rw [show decide (dp≤8)=false from decide_eq_false (by omega)];simp;done)
   | (rw [show decide (sz≤64)=false from decide_eq_false (by omega)];simp;done)
end
end Go.Proofs.YtmehinfgdcmmjaaGreat
