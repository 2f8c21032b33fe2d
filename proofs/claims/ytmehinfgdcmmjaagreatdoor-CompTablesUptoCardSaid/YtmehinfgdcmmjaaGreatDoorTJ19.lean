/- A part of the proof. -/
import Derived.Test.YtmehinfgdcmmjaaGreatDoorTJ18
import Derived.Test.YtmehinfgdcmmjaaGreatDoorTJ32
import Derived.Test.YtmehinfgdcmmjaaGreatDoorTPo8
namespace Go.Proofs.YtmehinfgdcmmjaaGreatDoor
open Go.Sx
set_option maxRecDepth 20000
set_option linter.unusedSimpArgs false
set_option linter.unusedVariables false
set_option maxHeartbeats 4000000
section
variable (F:Heap)
theorem nR (q:Po.T→Bool) (v:Value) (l:List Po.T) (hv:Po.Row F v l) (hn:l.length≤4611686018427387904) (g:FuncId) (first captured:List AV)
  (hg:∀ x∈l,∀ pA A,Po.At F x pA A→Qz Tryz.prog g (first++[.agg (Po.cs x pA A)]++captured) [hpB F] fun r m=>r = .bool (q x)∧m=[hpB F]) :
  Qz Tryz.prog 185 [.hs v l.length,.fn g first captured] [hpB F] fun r m=>(∃ j:Int,r = .int .i64 j∧(0≤j↔l.any q=true))∧m=[hpB F]:=by
 have hok:=hv.ok
 refine aB Tryz.func185 rfl (by decide) ?_
 repeat' first|(refine sxZ ?_;try clear hK K)|refine sxW ?_ ?_<;>intro _|(intro K hK _;conv=>whnf)
 refine aE (α:=Nat) (fun k=>k≤l.length∧∀ (j:Nat) (x:Po.T),j<k→l[j]?=some x→q x=false) (fun k=>[.k,.k,.k,.k,.d,.d,.k,.k,.set (.int .i64 k),.d,.d,.d,.d,.d,.d,.d,.d,.d,.d]) (fun _=>[]) (fun k=>l.length - k) 0 ⟨Nat.zero_le _,fun j x hj=>absurd hj (Nat.not_lt_zero _)⟩ ?_ (Qw.eq rfl) ?_
 ·exact aD
 (intro k ⟨hk,hgone⟩;intro K hK;(conv=>whnf);refine hK _ _ ?_;clear hK K)
 by_cases hlt:k<l.length
 ·have hx:l[k]?=some l[k]:=List.getElem?_eq_getElem hlt
  obtain ⟨pA,pcap,A,cap,hA,c0,c1,c2,c3,c4,c5,c6,c7⟩:=hv.get hx
  have hAo:=hA.l.ok
  have hAp:=hA.p.ok
  have hmem:=List.mem_of_getElem? hx
  have c:=hg _ hmem _ _ hA
  generalize l[k]=x at *
  obtain ⟨yk,⟨ypk,ypf,ypv,ypl⟩,yf,yv,yl⟩:=x
  simp only [Po.cs,Po.T.k,Po.T.p,Po.T.f,Po.T.v,Po.T.l,Pd.T.k,Pd.T.f,Pd.T.v,Pd.T.l] at c c0 c1 c2 c3 c4 c5 c6 c7 hAo hAp
  cases hq:q (.mk yk (.mk ypk ypf ypv ypl) yf yv yl) with
  | false =>
   rw [hq] at c
   repeat' first|(intro K hK;(with_reducible refine gC ?_);refine cS [0] c ?_)|(refine sxZ ?_;try clear hK K)|refine sxW ?_ ?_<;>intro _|(intro K hK _;conv=>whnf)
   refine aC (k+1) ⟨hlt,fun j y hj hy=>?_⟩ (by omega) ?_ (Qw.eq rfl)
   ·by_cases e:j=k
    ·subst e
     rw [hx] at hy
     injection hy with hy
     rw [← hy];exact hq
    ·exact hgone j y (by omega) hy
   ·exact aD
  | true =>
   rw [hq] at c
   repeat' first|(intro K hK;(with_reducible refine gC ?_);refine cS [0] c ?_)|(refine sxZ ?_;try clear hK K)|refine sxW ?_ ?_<;>intro _|(intro K hK _;conv=>whnf)
   exact ⟨⟨_,rfl,⟨fun _=>List.any_eq_true.2 ⟨_,hmem,hq⟩,fun _=>by omega⟩⟩,rfl⟩
 ·have hno:¬ l.any q=true:=fun h=>by
   obtain ⟨x,hx,hq⟩:=List.any_eq_true.1 h
   obtain ⟨j,hj,e⟩:=List.getElem_of_mem hx
   have:=hgone j x (by omega) (by rw [← e];exact List.getElem?_eq_getElem hj)
   rw [this] at hq
   cases hq
  repeat' first|(refine sxZ ?_;try clear hK K)|refine sxW ?_ ?_<;>intro _|(intro K hK _;conv=>whnf)
  exact ⟨⟨_,rfl,⟨fun h=>by omega,fun h=>(hno h).elim⟩⟩,rfl⟩
theorem jG (q:Po.T→Bool) (v:Value) (l:List Po.T) (hv:Po.Row F v l) (hn:l.length≤4611686018427387904) (g:FuncId) (first captured:List AV)
  (hg:∀ x∈l,∀ pA A,Po.At F x pA A→Qz Tryz.prog g (first++[.agg (Po.cs x pA A)]++captured) [hpB F] fun r m=>r = .bool (q x)∧m=[hpB F]) :
  Qz Tryz.prog 143 [.hs v l.length,.fn g first captured] [hpB F] fun r m=>r = .bool (l.any q)∧m=[hpB F]:=by
 have hi:=nR F q v l hv hn g first captured hg
 refine aB Tryz.func143 rfl (by decide) ?_
 repeat' first|(intro K hK;(with_reducible refine gC ?_);(refine cN [0] hi ?_;rintro _ _ ⟨⟨j,rfl,hj⟩,rfl⟩;refine cR ?_))|(refine sxZ ?_;try clear hK K)|refine sxW ?_ ?_<;>intro _|(intro K hK _;conv=>whnf)
 all_goals
  refine ⟨?_,rfl⟩
  congr 1
  by_cases h:0≤j
  ·rw [hj.1 h];exact decide_eq_true h
  ·rw [show l.any q=false by cases e:l.any q with | false=>rfl | true=>exact (h (hj.2 e)).elim];exact decide_eq_false h
theorem mR:∀ (n:Nat) (x:Po.T) (pu u:Value),Po.tot x≤n→Po.tot x≤4611686018427387904→Po.At F x pu u →
  Qz Tryz.prog 101 [.agg (Po.cs x pu u)] [hpB F] fun r m=>r = .bool (Po.fits x)∧m=[hpB F]
 | 0,x,pu,u,hn,_,_=>absurd (Po.tot_pos x) (by omega)
 | n+1,⟨k,p,f,v,l⟩,pu,u,hn,hs,hx=>by
  refine Qz.fits (K:=fun r m=>r = .bool (Po.fits (.mk k p f v l))∧Qw m [hpB F]) ?_ fun r m' h=>⟨r,_,rfl,h.2,h.1,rfl⟩
  have hu:Po.Row F u l:=hx.l
  have hok:=hu.ok
  have hpok:SlOk pu p.l.length:=hx.p.ok
  have hll:=Po.length_le l
  have e2:=Po.tot_mk k p f v l
  have ih:∀ x∈l,∀ pA A,Po.At F x pA A→Qz Tryz.prog 144 ([]++[.agg (Po.cs x pA A)]++[]) [hpB F] fun r m=>r = .bool (!Po.fits x)∧m=[hpB F]:=fun x hx pA A hA=>by
   have c:=mR n x pA A (by have:=Po.tot_lt (k:=k) (q:=p) (f:=f) (v:=v) hx;omega) (by have:=Po.tot_lt (k:=k) (q:=p) (f:=f) (v:=v) hx;omega) hA
   refine Qz.fits (K:=fun r m=>r = .bool (!Po.fits x)∧Qw m [hpB F]) ?_ fun r m' h=>⟨r,_,rfl,h.2,h.1,rfl⟩
   have hAo:=hA.l.ok
   have hAp:=hA.p.ok
   generalize Po.fits x=b at *
   simp only [Po.cs] at *
   refine aB Tryz.func144 rfl (by decide) ?_
   repeat' first|(intro K hK;(with_reducible refine gC ?_);refine cS [0] c ?_)|(refine sxZ ?_;try clear hK K)|refine sxW ?_ ?_<;>intro _|(intro K hK _;conv=>whnf)
   all_goals exact ⟨rfl,Qw.pre 1 rfl⟩
  have cc:=jG F (fun x=>!Po.fits x) u l hu (by omega) _ [] [] ih
  rw [Po.any_fits] at cc
  have cs:=mj F k p f v l pu u (by omega) (by omega) hx
  rw [Po.fits]
  generalize Po.shape k p f v l.length=sb at *
  generalize Po.fitsL l=fb at *
  rw [aY] at *
  clear ih hx
  refine aB Tryz.func101 rfl (by decide) ?_
  cases sb
  ·repeat' first|(intro K hK;(with_reducible refine gC ?_);refine cS [0] cs ?_)|(refine sxZ ?_;try clear hK K)|refine sxW ?_ ?_<;>intro _|(intro K hK _;conv=>whnf)
   all_goals exact ⟨rfl,Qw.pre 1 rfl⟩
  ·repeat' first|(intro K hK;(with_reducible refine gC ?_);first|refine cS [0] cs ?_|refine cS [0] cc ?_)|(refine sxZ ?_;try clear hK K)|refine sxW ?_ ?_<;>intro _|(intro K hK _;conv=>whnf)
   all_goals exact ⟨by cases fb<;>rfl,Qw.pre 1 rfl⟩
theorem gz (x:Po.T) (pu u:Value) (hs:Po.tot x≤4611686018427387904) (hx:Po.At F x pu u):Qz Tryz.prog 54 [.agg (Po.cs x pu u)] [hpB F] fun r m=>r = .bool (Po.right x)∧m=[hpB F]:=by
 refine Qz.fits (K:=fun r m=>r = .bool (Po.right x)∧Qw m [hpB F]) ?_ fun r m' h=>⟨r,_,rfl,h.2,h.1,rfl⟩
 have c1:=jZ F _ x pu u (Nat.le_refl _) hs hx
 have c2:=kV F _ x pu u (Nat.le_refl _) hs hx
 have c3:=jQ F _ x pu u (Nat.le_refl _) hs hx
 have c4:=mR F _ x pu u (Nat.le_refl _) hs hx
 have hd:=Po.deep_tot x
 have hz:=Po.size_tot x
 have hwd:=Po.wide_le x
 have hok:=hx.l.ok
 have hpok:=hx.p.ok
 unfold Po.right
 generalize Po.fits x=fb at *
 generalize Po.size x=sz at *
 generalize Po.deep x=dp at *
 generalize Po.wide x=wd at *
 simp only [Po.cs] at *
 clear hx
 refine aB Tryz.func54 rfl (by decide) ?_
 by_cases h1:dp≤8
 ·by_cases h2:sz≤64
  ·by_cases h3:wd≤64
   ·repeat' first|(intro K hK;(with_reducible refine gC ?_);first|refine cS [0] c1 ?_|refine cS [0] c2 ?_|refine cS [0] c3 ?_|refine cS [0] c4 ?_)|(refine sxZ ?_;try clear hK K)|refine sxW ?_ ?_<;>intro _|(intro K hK _;conv=>whnf)
    all_goals first
     | (exfalso;omega)
     | exact ⟨by simp [h1,h2,h3],Qw.pre 1 rfl⟩
   ·repeat' first|(intro K hK;(with_reducible refine gC ?_);first|refine cS [0] c1 ?_|refine cS [0] c2 ?_|refine cS [0] c3 ?_)|(refine sxZ ?_;try clear hK K)|refine sxW ?_ ?_<;>intro _|(intro K hK _;conv=>whnf)
    all_goals first
     | (exfalso;omega)
     | exact ⟨by simp [h3],Qw.pre 1 rfl⟩
  ·repeat' first|(intro K hK;(with_reducible refine gC ?_);first|refine cS [0] c1 ?_|refine cS [0] c2 ?_)|(refine sxZ ?_;try clear hK K)|refine sxW ?_ ?_<;>intro _|(intro K hK _;conv=>whnf)
   all_goals first
    | (exfalso;omega)
    | exact ⟨by simp [h2],Qw.pre 1 rfl⟩
 ·repeat' first|(intro K hK;(with_reducible refine gC ?_);refine cS [0] c2 ?_)|(refine sxZ ?_;try clear hK K)|refine sxW ?_ ?_<;>intro _|(intro K hK _;conv=>whnf)
  all_goals first
   | (exfalso;omega)
   | exact ⟨by simp [h1],Qw.pre 1 rfl⟩
end
namespace Ps
theorem field_b {l:List Lx.T} (hl:Good l) {i many:Nat} {x:Lx.T} (hx:l[i]?=some x):((if x.k=1 then idx (words.take many) x.s else -1) = -1∧field (l.map Lx.b) i many=none)∨∃ f:Nat,(if x.k=1 then idx (words.take many) x.s else -1)=f∧field (l.map Lx.b) i many=some f∧i+1<l.length:=by
 unfold field idx
 rw [tk_b hx]
 show (_∧(if x.k=1 then (words.take many).findIdx? (fun w=>decide (w=x.s)) else none)=none)∨∃ f:Nat,_∧(if x.k=1 then (words.take many).findIdx? (fun w=>decide (w=x.s)) else none)=some f∧_
 by_cases h:x.k=1
 ·rw [if_pos h,if_pos h]
  cases (words.take many).findIdx? (fun w=>decide (w=x.s)) with
  | none=>exact .inl ⟨rfl,rfl⟩
  | some f=>exact .inr ⟨f,rfl,rfl,hl.end_ i x hx (by omega)⟩
 ·rw [if_neg h,if_neg h]
  exact .inl ⟨rfl,rfl⟩
theorem assign_none {l:List Lx.T} {i many:Nat} {sign:List UInt8} (h:field (l.map Lx.b) i many=none):assign (l.map Lx.b) many sign i = .bad i:=by
 unfold assign
 rw [h]
theorem assign_some {l:List Lx.T} {i many f:Nat} {sign:List UInt8} (h:field (l.map Lx.b) i many=some f):assign (l.map Lx.b) many sign i=if is (l.map Lx.b) (i+1) sign=true then (if (tk (l.map Lx.b) (i+2)).k=2 then .ok ((f:Int),(tk (l.map Lx.b) (i+2)).n) (i+3) else .bad (i+2)) else .bad (i+1):=by
 unfold assign
 rw [h]
end Ps
theorem jq (v:Value) (l:List Lx.T) (hl:Ps.Good l):∀ (n i:Nat),l.length - i≤n→i<l.length→Ps.P26 v l 246 (Ps.part (l.map Lx.b) n i) i
 | 0,i,h0,h1=>by omega
 | n+1,i,hni,hil=>by
  intro F b hv
  refine aH.fits (K:=fun r m=>∃ p j G u,Ps.part (l.map Lx.b) (n+1) i = .ok p j∧i≤j∧j<l.length∧F.le G∧Pd.Row G u p.l∧r.den=(AV.agg (Pd.cs p u)).den∧Qw m [hpB G,Ps.pB b v l.length j]) (Kp:=fun ch m=>∃ j x G k,Ps.part (l.map Lx.b) (n+1) i = .bad j∧l[j]?=some x∧ch=Ps.wrong x.at_∧F.le G∧Qw m [hpB G,Ps.pB b v l.length k]) ?_ (fun r m' ⟨p,j,G,u,h1,h2,h3,h4,h5,h6,h7⟩=>⟨_,_,h6.symm,h7,p,j,G,u,h1,h2,h3,h4,h5,rfl,rfl⟩) (fun ch m' ⟨j,x,G,k,h1,h2,h3,h4,h5⟩=>⟨_,h5,j,x,G,k,h1,h2,h3,h4,rfl⟩)
  have hn:=hl.few
  have hx:l[i]?=some l[i]:=List.getElem?_eq_getElem hil
  have hih:∀ i',i+1≤i'→i'<l.length→Ps.P26 v l 246 (Ps.part (l.map Lx.b) n i') i':=fun i' h1 h2=>jq v l hl n i' (by omega) h2
  have hic:=fun h=>kZ v l hl (Ps.part (l.map Lx.b) n) (i+1) h fun i' h1 h2=>iL v l hl (Ps.part (l.map Lx.b) n) i' h2 fun i'' h3 h4=>hih i'' (by omega) h4
  have c1:=bu F v l hv hn b hx Ps.wTrue
  have c2:=bu F v l hv hn b hx Ps.wFalse
  have c3:=bu F v l hv hn b hx Ps.wNot
  have c4:=bu F v l hv hn b hx Ps.wOpen
  have cf:=iR F v l hv hn b (many:=6) (by decide) hx
  have hfb:=Ps.field_b hl (many:=6) hx
  have cfl:=di F v l hv hn b hx
  rw [← Ps.is_b hx] at c1 c2 c3 c4
  have n1:=fun s=>hl.next hx (s:=s)
  have hspec:Ps.part (l.map Lx.b) (n+1) i=if Ps.is (l.map Lx.b) i Ps.wTrue=true then .ok (.mk 1 0 0 []) (i+1)
   else if Ps.is (l.map Lx.b) i Ps.wFalse=true then .ok (.mk 2 0 0 []) (i+1)
   else if Ps.is (l.map Lx.b) i Ps.wNot=true then match Ps.part (l.map Lx.b) n (i+1) with
    | .ok x j=>.ok (.mk 4 0 0 [x]) j
    | .bad j=>.bad j
   else if Ps.is (l.map Lx.b) i Ps.wOpen=true then Ps.shut (l.map Lx.b) (Ps.cond (l.map Lx.b) (Ps.part (l.map Lx.b) n) (i+1))
   else match Ps.assign (l.map Lx.b) 6 Ps.wEq i with
    | .ok (f,v) j=>.ok (.mk 3 f v []) j
    | .bad j=>.bad j:=by
   rw [Ps.part]
   split
   ·rfl
   split
   ·rfl
   split
   ·cases Ps.part (l.map Lx.b) n (i+1)<;>rfl
   split
   ·rfl
   ·rcases Ps.assign (l.map Lx.b) 6 Ps.wEq i with ⟨⟨f,v⟩,j⟩ | j<;>rfl
  have m1:=n1 Ps.wTrue
  have m2:=n1 Ps.wFalse
  have m3:=n1 Ps.wNot
  have m4:=n1 Ps.wOpen
  generalize Ps.part (l.map Lx.b) (n+1) i=res at *
  generalize Ps.is (l.map Lx.b) i Ps.wTrue=q1 at *
  generalize Ps.is (l.map Lx.b) i Ps.wFalse=q2 at *
  generalize Ps.is (l.map Lx.b) i Ps.wNot=q3 at *
  generalize Ps.is (l.map Lx.b) i Ps.wOpen=q4 at *
  unfold Ps.pB at c1 c2 c3 c4 cf cfl ⊢
  unfold Ps.wTrue at c1
  unfold Ps.wFalse at c2
  unfold Ps.wNot at c3
  unfold Ps.wOpen at c4
  refine ax Tryz.func246 rfl (by decide) ?_
  cases q1 with
  | true =>
   rw [if_pos rfl] at c1 hspec
   repeat' first|(intro K Kp hK hP;(with_reducible refine gCX ?_);(refine aH.of ?_;first|refine cS [0,1] c1 ?_))|(refine ah ?_;(try clear hP hK Kp K);try clear hK K)|refine sxW ?_ ?_<;>intro _|(intro K Kp hK hP _;conv=>whnf)|(intro K hK _;conv=>whnf)
   all_goals exact ⟨_,i+1,F,.slice none 0 0,hspec,by omega,m1 rfl,F.le_refl,aI.nil,rfl,Qw.pre 2 rfl⟩
  | false =>
  rw [if_neg (by decide)] at c1 hspec
  cases q2 with
  | true =>
   rw [if_pos rfl] at c2 hspec
   repeat' first|(intro K Kp hK hP;(with_reducible refine gCX ?_);(refine aH.of ?_;first|refine cS [0,1] c1 ?_|refine cS [0,1] c2 ?_))|(refine ah ?_;(try clear hP hK Kp K);try clear hK K)|refine sxW ?_ ?_<;>intro _|(intro K Kp hK hP _;conv=>whnf)|(intro K hK _;conv=>whnf)
   all_goals exact ⟨_,i+1,F,.slice none 0 0,hspec,by omega,m2 rfl,F.le_refl,aI.nil,rfl,Qw.pre 2 rfl⟩
  | false =>
  rw [if_neg (by decide)] at c2 hspec
  cases q3 with
  | true =>
   rw [if_pos rfl] at c3 hspec
   have cp:=hih (i+1) (Nat.le_refl _) (m3 rfl) F b hv
   generalize Ps.part (l.map Lx.b) n (i+1)=qq at *
   unfold Ps.pB at cp
   repeat' first|(intro K Kp hK hP;(with_reducible refine gCX ?_);first|(refine cX [0,1] cp rfl rfl ?_ ?_;((rintro _ _ ⟨p,j,G,u,h1,h2,h3,h4,h5,rfl,rfl⟩)<;>refine ⟨rfl,_,rfl,?_⟩);rotate_right;((rintro _ _ ⟨j,x,G,k,h1,h2,rfl,h4,rfl⟩)<;>refine ⟨rfl,?_⟩);all_goals (conv=>whnf))|(refine aH.of ?_;first|refine cS [0,1] c1 ?_|refine cS [0,1] c2 ?_|refine cS [0,1] c3 ?_))|(refine ah ?_;(try clear hP hK Kp K);try clear hK K)|refine sxW ?_ ?_<;>intro _|(intro K Kp hK hP _;conv=>whnf)|(intro K hK _;conv=>whnf)
   ·refine ⟨j,x,G,k,?_,h2,rfl,h4,Qw.pre 2 rfl⟩
    rw [hspec,h1]
   ·rename_i b1 b2
    have hok:SlOk (.slice (some ⟨b2,0,none⟩) 1 1) [(p,u)].length:=⟨_,_,rfl,Nat.le_refl _,fun h=>by cases h⟩
    have hcs:denL [.int .i64 p.k,.int .i64 p.f,.int .i64 p.v,.hs u p.l.length]=[(p,u)].flatMap Pd.psV:=rfl
    have hrow:=aM (F:=G) (sz:=4) (enc:=Pd.psV) (l:=[(p,u)]) hok hcs (fun x _=>rfl)
    refine ⟨.mk 4 0 0 [p],j,addF G ⟨b2,0,none⟩ _,.slice (some ⟨b2,0,none⟩) 1 1,by rw [hspec,h1],by omega,h3,h4.trans addF.old,Pd.row_of hrow fun y hy=>?_,rfl,(Qw.pick (m':=[hpB G,_,Ps.pB b v l.length j]) [0,3,1] (by decide) rfl).trans (Qw.freeze (m:=[Ps.pB b v l.length j]))⟩
    rw [List.mem_singleton.1 hy]
    exact Pd.Row.mono addF.old h5
  | false =>
  rw [if_neg (by decide)] at c3 hspec
  have cm:=fun G (h:F.le G) j (hj:j<l.length) s=>kA G v l (Ps.Toks.mono h hv) hn b (List.getElem?_eq_getElem hj) s
  have isj:=fun j (hj:j<l.length) s=>Ps.is_b (List.getElem?_eq_getElem hj) s
  have nxj:=fun j (hj:j<l.length) s=>hl.next (List.getElem?_eq_getElem hj) (s:=s)
  unfold Ps.pB at cm
  cases q4 with
  | true =>
   rw [if_pos rfl] at c4 hspec
   have cp:=hic (m4 rfl) F b hv
   generalize Ps.cond (l.map Lx.b) (Ps.part (l.map Lx.b) n) (i+1)=qq at *
   unfold Ps.pB at cp
   repeat' first|(intro K Kp hK hP;(with_reducible refine gCX ?_);first|(refine cX [0,1] cp rfl rfl ?_ ?_;((rintro _ _ ⟨p,j,G,u,h1,h2,h3,h4,h5,rfl,rfl⟩)<;>refine ⟨rfl,_,rfl,?_⟩);rotate_right;((rintro _ _ ⟨j,x,G,k,h1,h2,rfl,h4,rfl⟩)<;>refine ⟨rfl,?_⟩);all_goals (conv=>whnf))|(refine cX [0,1] (cm G h4 j h3 [41]) rfl rfl ?_ ?_;((rintro _ _ ⟨k1,rfl,rfl⟩)<;>refine ⟨rfl,_,rfl,?_⟩);rotate_right;((rintro _ _ ⟨k1,rfl,rfl⟩)<;>refine ⟨rfl,?_⟩);all_goals (conv=>whnf))|(refine aH.of ?_;first|refine cS [0,1] c1 ?_|refine cS [0,1] c2 ?_|refine cS [0,1] c3 ?_|refine cS [0,1] c4 ?_))|(refine ah ?_;(try clear hP hK Kp K);try clear hK K)|refine sxW ?_ ?_<;>intro _|(intro K Kp hK hP _;conv=>whnf)|(intro K hK _;conv=>whnf)
   ·refine ⟨j,x,G,k,?_,h2,rfl,h4,Qw.pre 2 rfl⟩
    rw [hspec,h1]
    rfl
   ·refine ⟨j,_,G,j,?_,List.getElem?_eq_getElem h3,rfl,h4,Qw.pre 2 rfl⟩
    rw [← isj j h3] at k1
    rw [hspec,h1]
    exact if_neg (by rw [show Ps.is (l.map Lx.b) j Ps.wShut=false from k1];decide)
   ·rw [← isj j h3] at k1
    refine ⟨p,j+1,G,u,?_,by omega,nxj j h3 _ k1,h4,h5,rfl,Qw.pre 2 rfl⟩
    rw [hspec,h1]
    exact if_pos k1
  | false =>
   rw [if_neg (by decide)] at c4 hspec
   have cnum:=fun j (hj:j<l.length)=>gA F v l hv hn b (List.getElem?_eq_getElem hj)
   have tkj:=fun j (hj:j<l.length)=>Ps.tk_b (List.getElem?_eq_getElem hj)
   unfold Ps.pB at cnum
   rcases hfb with ⟨hq,hf⟩ | ⟨f,hq,hf,h1⟩
   ·rw [hq] at cf
    rw [Ps.assign_none hf] at hspec
    repeat' first|(intro K Kp hK hP;(with_reducible refine gCX ?_);first|(refine cX [0,1] cfl rfl rfl ?_ ?_;((rintro _ _ ⟨⟩)<;>refine ⟨rfl,_,rfl,?_⟩);rotate_right;((rintro _ _ ⟨rfl,rfl⟩)<;>refine ⟨rfl,?_⟩);all_goals (conv=>whnf))|(refine aH.of ?_;first|refine cS [0,1] c1 ?_|refine cS [0,1] c2 ?_|refine cS [0,1] c3 ?_|refine cS [0,1] c4 ?_|refine cS [0,1] cf ?_))|(refine ah ?_;(try clear hP hK Kp K);try clear hK K)|refine sxW ?_ ?_<;>intro _|(intro K Kp hK hP _;conv=>whnf)|(intro K hK _;conv=>whnf)
    all_goals exact ⟨i,_,F,i,hspec,hx,rfl,F.le_refl,Qw.pre 2 rfl⟩
   ·rw [hq,if_pos (by omega)] at cf
    rw [Ps.assign_some hf] at hspec
    have hf6:f≤6:=by
     have:=(List.findIdx?_eq_some_iff_getElem.1 (show (Ps.words.take 6).findIdx? _=some f from by
      unfold Ps.field at hf
      split at hf
      ·exact hf
      ·cases hf)).1
     rw [List.length_take] at this
     omega
    have c5:=cm F F.le_refl (i+1) h1 [61]
    have c6:=fun h=>cnum (i+2) h
    repeat' first|(intro K Kp hK hP;(with_reducible refine gCX ?_);first|(refine cX [0,1] c5 rfl rfl ?_ ?_;((rintro _ _ ⟨k1,rfl,rfl⟩)<;>refine ⟨rfl,_,rfl,?_⟩);rotate_right;((rintro _ _ ⟨k1,rfl,rfl⟩)<;>refine ⟨rfl,?_⟩);all_goals (conv=>whnf))|(refine cX [0,1] (c6 (nxj (i+1) h1 [61] ((isj (i+1) h1 [61]).trans k1))) rfl rfl ?_ ?_;((rintro _ _ ⟨k2,rfl,rfl⟩)<;>refine ⟨rfl,_,rfl,?_⟩);rotate_right;((rintro _ _ ⟨k2,rfl,rfl⟩)<;>refine ⟨rfl,?_⟩);all_goals (conv=>whnf))|(refine aH.of ?_;first|refine cS [0,1] c1 ?_|refine cS [0,1] c2 ?_|refine cS [0,1] c3 ?_|refine cS [0,1] c4 ?_|refine cS [0,1] cf ?_))|(refine ah ?_;(try clear hP hK Kp K);try clear hK K)|refine sxW ?_ ?_<;>intro _|(intro K Kp hK hP _;conv=>whnf)|(intro K hK _;conv=>whnf)
    all_goals first | (exfalso;omega) | skip
    ·refine ⟨i+1,_,F,i+1,?_,List.getElem?_eq_getElem h1,rfl,F.le_refl,Qw.pre 2 rfl⟩
     rw [← isj (i+1) h1] at k1
     rw [hspec,if_neg (by rw [show Ps.is (l.map Lx.b) (i+1) Ps.wEq=false from k1];decide)]
    ·have h2:=nxj (i+1) h1 [61] ((isj (i+1) h1 [61]).trans k1)
     refine ⟨i+2,_,F,i+2,?_,List.getElem?_eq_getElem h2,rfl,F.le_refl,Qw.pre 2 rfl⟩
     rw [← isj (i+1) h1] at k1
     rw [hspec,if_pos (show Ps.is (l.map Lx.b) (i+1) Ps.wEq=true from k1),tkj (i+2) h2,if_neg (show ¬(Lx.b (l[i+2]'h2)).k=2 from k2)]
    ·have h2:=nxj (i+1) h1 [61] ((isj (i+1) h1 [61]).trans k1)
     refine ⟨.mk 3 f (l[i+2]'h2).n [],i+3,F,.slice none 0 0,?_,by omega,hl.end_ (i+2) _ (List.getElem?_eq_getElem h2) (by rw [k2];decide),F.le_refl,aI.nil,rfl,Qw.pre 2 rfl⟩
     rw [← isj (i+1) h1] at k1
     rw [hspec,if_pos (show Ps.is (l.map Lx.b) (i+1) Ps.wEq=true from k1),tkj (i+2) h2,if_pos (show (Lx.b (l[i+2]'h2)).k=2 from k2)]
     rfl
namespace Ps
def Got27 (F:Heap) (v:Value) (l:List Lx.T) (b:Nat) (i:Nat) (q:R Po.T) (r:AV) (m:List Blk):Prop :=
 ∃ p j G pu u,q = .ok p j∧i≤j∧j<l.length∧F.le G∧Po.At G p pu u∧r = .agg (Po.cs p pu u)∧m=[hpB G,pB b v l.length j]
def P27 (v:Value) (l:List Lx.T) (f:FuncId) (q:R Po.T) (i:Nat):Prop :=
 ∀ (F:Heap) (b:Nat),Toks F v l→aH Tryz.prog f [.ptr 1 ⟨b,0,none⟩ 0] [hpB F,pB b v l.length i] (fun r m=>Got27 F v l b i q r m) (fun ch m=>Bad F v l b q ch m)
def Got27L (F:Heap) (v:Value) (l:List Lx.T) (b:Nat) (i:Nat) (q:R (List Po.T)) (r:AV) (m:List Blk):Prop :=
 ∃ xs j G u,q = .ok xs j∧i≤j∧j<l.length∧F.le G∧Po.Row G u xs∧r = .hs u xs.length∧m=[hpB G,pB b v l.length j]
end Ps
theorem iU (v:Value) (l:List Lx.T) (hl:Ps.Good l) (s:List UInt8) (g:FuncId) (sp:Nat→Ps.R Po.T) (i0:Nat) (hi0:i0<l.length) (hg:∀ i,i0≤i→i<l.length→Ps.P27 v l g (sp i) i) (F:Heap) (b:Nat) (hv:Ps.Toks F v l) :
  aH Tryz.prog 129 [.ptr 1 ⟨b,0,none⟩ 0,.str s,.fn g [.ptr 1 ⟨b,0,none⟩ 0] []] [hpB F,Ps.pB b v l.length i0] (fun r m=>Ps.Got27L F v l b i0 (Ps.chain (l.map Lx.b) s sp i0) r m) (fun ch m=>Ps.Bad F v l b (Ps.chain (l.map Lx.b) s sp i0) ch m):=by
 refine aH.know (K:=fun r m=>∃ (ps:List Po.L) (j:Nat) (G:Heap) (w:Value),Ps.chain (l.map Lx.b) s sp i0 = .ok (ps.map (·.x)) j∧i0≤j∧j<l.length∧F.le G∧(∀ p∈ps,Po.At G p.x p.pu p.u)∧r.den=aw w∧Qw m [hpB G,⟨addrOf w,Po.psC ps,.row w 42 8 ps.length⟩,Ps.pB b v l.length j]) (Kp:=fun ch m=>∃ j x G k,Ps.chain (l.map Lx.b) s sp i0 = .bad j∧l[j]?=some x∧ch=Ps.wrong x.at_∧F.le G∧Qw m [hpB G,Ps.pB b v l.length k]) ?_ (fun r m' hq ⟨w0,hw0⟩=>?_) (fun ch m' hq=>?_)
 rotate_left
 ·obtain ⟨ps,j,G,w,h1,h2,h3,h4,h5,h6,h7⟩:=hq
  have hok:=((h7 w0 hw0).1.row (List.mem_cons_of_mem _ (List.mem_cons_self ..))).1
  have hrow:=aM (F:=G) (sz:=8) (enc:=Po.psV) hok (Po.psC_den ps) (fun x _=>rfl)
  refine ⟨.hs w ps.length,_,h6.symm,h7.trans (Qw.freeze (m:=[Ps.pB b v l.length j])),ps.map (·.x),j,_,w,h1,h2,h3,h4.trans addF.old,?_,by rw [List.length_map],rfl⟩
  exact Po.row_of hrow fun p hp=>Po.At.mono addF.old (h5 p hp)
 ·obtain ⟨j,x,G,k,h1,h2,h3,h4,h5⟩:=hq
  exact ⟨_,h5,j,x,G,k,h1,h2,h3,h4,rfl⟩
 have c0:=hg i0 (Nat.le_refl _) hi0 F b hv
 have hn:=hl.few
 have hspec:Ps.chain (l.map Lx.b) s sp i0=match sp i0 with
  | .ok x j=>Ps.more (l.map Lx.b) s sp ((l.map Lx.b).length+1 - j) [x] j
  | .bad j=>.bad j:=by unfold Ps.chain;cases sp i0<;>rfl
 have hlen:(l.map Lx.b).length=l.length:=List.length_map ..
 rw [hlen] at hspec
 generalize Ps.chain (l.map Lx.b) s sp i0=res at *
 generalize hq0:sp i0=q0 at *
 refine ax Tryz.func129 rfl (by decide) ?_
 unfold Ps.pB at c0 ⊢
 repeat' first|(intro K Kp hK hP;(with_reducible refine gCX ?_);(refine cX [0,1] c0 rfl rfl ?_ ?_;((rintro _ _ ⟨p,j,G,pu,u,h1,h2,h3,h4,h5,rfl,rfl⟩)<;>refine ⟨rfl,_,rfl,?_⟩);rotate_right;((rintro _ _ ⟨j,x,G,k,h1,h2,rfl,h4,rfl⟩)<;>refine ⟨rfl,?_⟩);all_goals (conv=>whnf)))|(refine ah ?_;(try clear hP hK Kp K);try clear hK K)|refine sxW ?_ ?_<;>intro _|(intro K Kp hK hP _;conv=>whnf)|(intro K hK _;conv=>whnf)
 ·refine ⟨j,x,G,k,?_,h2,rfl,h4,Qw.pre 2 rfl⟩
  rw [hspec,h1]
 rename_i b2
 rw [h1] at hspec
 dsimp only at hspec
 refine jY (α:=Heap × Value × List Po.L × Nat × Nat) (fun (G,w,ps,j,n)=>res=Ps.more (l.map Lx.b) s sp n (ps.map (·.x)) j∧i0≤j∧j<l.length∧l.length - j<n∧F.le G∧ps.length≤j+1∧∀ p∈ps,Po.At G p.x p.pu p.u)
  (fun (G,w,ps,j,n)=>[.k,.k,.k,.k,.k,.k,.k,.set (.sl 2 w ps.length),.k,.k,.k,.d,.d,.d,.d,.d,.d,.d,.d,.k]) (fun (G,w,ps,j,n)=>[.set (hpB G),.set (Ps.pB b v l.length j),.set ⟨addrOf w,Po.psC ps,.row w 42 8 ps.length⟩]) (fun (G,w,ps,j,n)=>l.length - j)
  (G,.slice (some ⟨b2,0,none⟩) 1 1,[⟨p,pu,u⟩],j,l.length+1 - j) ⟨hspec,h2,h3,by omega,h4,by simp,fun x hx=>by rw [List.mem_singleton.1 hx];exact h5⟩ ?_ ?_ ?_
 ·exact aD
 ·exact Qw.eq rfl
 (intro ⟨G1,w,ps,j1,n⟩ ⟨hres,hij,hjl,hnl,hle,hpl,hall⟩;intro K hK;(conv=>whnf);refine hK _ _ ?_;clear hK K)
 dsimp only at hres hij hjl hnl hle hpl hall ⊢
 obtain ⟨n,rfl⟩:∃ k,n=k+1:=⟨n - 1,by omega⟩
 have hx1:l[j1]?=some l[j1]:=List.getElem?_eq_getElem hjl
 have ci:=bu G1 v l (Ps.Toks.mono hle hv) hn b hx1 s
 have hisb:=Ps.is_b hx1 s
 have hnext:=hl.next hx1 (s:=s)
 rw [← hisb] at ci
 unfold Ps.more at hres
 have hpc:=Po.psC_len ps
 generalize Ps.is (l.map Lx.b) j1 s=qi at *
 cases qi with
 | false =>
  rw [if_neg (by decide)] at ci hres
  repeat' first|(intro K Kp hK hP;(with_reducible refine gCX ?_);(refine aH.of ?_;first|refine cS [0,1] ci ?_))|(refine ah ?_;(try clear hP hK Kp K);try clear hK K)|refine sxW ?_ ?_<;>intro _|(intro K Kp hK hP _;conv=>whnf)|(intro K hK _;conv=>whnf)
  all_goals exact ⟨ps,j1,G1,w,hres,hij,hjl,hle,hall,rfl,Qw.pick [0,2,1] (by decide) rfl⟩
 | true =>
  rw [if_pos rfl] at ci hres
  have c1:=hg (j1+1) (by omega) (hnext rfl) G1 b (Ps.Toks.mono hle hv)
  generalize hq1:sp (j1+1)=q1 at *
  unfold Ps.pB at ci c1
  repeat' first|(intro K Kp hK hP;(with_reducible refine gCX ?_);first|(refine cX [0,1] c1 rfl rfl ?_ ?_;((rintro _ _ ⟨p2,j2,G2,pu2,u2,k1,k2,k3,k4,k5,rfl,rfl⟩)<;>refine ⟨rfl,_,rfl,?_⟩);rotate_right;((rintro _ _ ⟨j2,x2,G2,k',k1,k2,rfl,k4,rfl⟩)<;>refine ⟨rfl,?_⟩);all_goals (conv=>whnf))|(refine aH.of ?_;first|refine cS [0,1] ci ?_))|(refine ah ?_;(try clear hP hK Kp K);try clear hK K)|refine sxW ?_ ?_<;>intro _|(intro K Kp hK hP _;conv=>whnf)|(intro K hK _;conv=>whnf)
  ·refine ⟨j2,x2,G2,k',?_,k2,rfl,hle.trans k4,Qw.pre 2 rfl⟩
   rw [hres,k1]
  ·rename_i b3 w2
   have hpn:=Po.psC_next ps (⟨p2,pu2,u2⟩:Po.L)
   have hpl2:(ps++[(⟨p2,pu2,u2⟩:Po.L)]).length=ps.length+1:=by rw [List.length_append];rfl
   rw [k1] at hres
   dsimp only at hres
   refine aC (G2,w2,ps++[⟨p2,pu2,u2⟩],j2,n) ⟨by rw [List.map_append];exact hres,Nat.le_trans hij (Nat.le_trans (Nat.le_succ _) k2),k3,by dsimp only;omega,hle.trans k4,by dsimp only;rw [hpl2];omega,fun x hx=>?_⟩ (by show l.length - j2<l.length - j1;omega) ?_ ?_
   ·rcases List.mem_append.1 hx with hx | hx
    ·exact Po.At.mono k4 (hall x hx)
    ·rw [List.mem_singleton.1 hx];exact k5
   ·dsimp only
    rw [hpl2]
    exact aD
   ·dsimp only
    rw [hpn,hpl2]
    exact Qw.pre 3 rfl
theorem l9 (v:Value) (l:List Lx.T) (hl:Ps.Good l) (sp:Nat→Ps.R Po.T) (i0:Nat) (hi0:i0<l.length) (hg:∀ i,i0≤i→i<l.length→Ps.P27 v l 173 (sp i) i):Ps.P27 v l 130 (Ps.row (l.map Lx.b) sp i0) i0:=by
 intro F b hv
 refine aH.fits (K:=fun r m=>∃ p j G pu u,Ps.row (l.map Lx.b) sp i0 = .ok p j∧i0≤j∧j<l.length∧F.le G∧Po.At G p pu u∧r.den=(AV.agg (Po.cs p pu u)).den∧Qw m [hpB G,Ps.pB b v l.length j]) (Kp:=fun ch m=>∃ j x G k,Ps.row (l.map Lx.b) sp i0 = .bad j∧l[j]?=some x∧ch=Ps.wrong x.at_∧F.le G∧Qw m [hpB G,Ps.pB b v l.length k]) ?_ (fun r m' ⟨p,j,G,pu,u,h1,h2,h3,h4,h5,h6,h7⟩=>⟨_,_,h6.symm,h7,p,j,G,pu,u,h1,h2,h3,h4,h5,rfl,rfl⟩) (fun ch m' ⟨j,x,G,k,h1,h2,h3,h4,h5⟩=>⟨_,h5,j,x,G,k,h1,h2,h3,h4,rfl⟩)
 have cc:=iU v l hl Ps.wSemi 173 sp i0 hi0 hg F b hv
 have hn:=hl.few
 unfold Ps.row
 generalize Ps.chain (l.map Lx.b) Ps.wSemi sp i0=q at *
 refine ax Tryz.func130 rfl (by decide) ?_
 unfold Ps.pB at cc ⊢
 unfold Ps.wSemi at cc
 repeat' first|(intro K Kp hK hP;(with_reducible refine gCX ?_);(refine cX [0,1] cc rfl rfl ?_ ?_;((rintro _ _ ⟨xs,j,G,u,h1,h2,h3,h4,h5,rfl,rfl⟩)<;>refine ⟨rfl,_,rfl,?_⟩);rotate_right;((rintro _ _ ⟨j,x,G,k,h1,h2,rfl,h4,rfl⟩)<;>refine ⟨rfl,?_⟩);all_goals (conv=>whnf)))|(refine ah ?_;(try clear hP hK Kp K);try clear hK K)|refine sxW ?_ ?_<;>intro _|(intro K Kp hK hP _;conv=>whnf)|(intro K hK _;conv=>whnf)
 ·refine ⟨j,x,G,k,?_,h2,rfl,h4,Qw.pre 2 rfl⟩
  rw [h1]
  rfl
 have huk:=h5.ok
 subst h1
 by_cases hone:xs.length=1
 ·obtain ⟨y,rfl⟩:=List.length_eq_one_iff.1 hone
  obtain ⟨pA,pcap,A,cap,hr,d0,d1,d2,d3,d4,d5,d6,d7⟩:=h5.get (i:=0) (x:=y) rfl
  rw [Nat.zero_mul] at d0 d1 d2 d3 d4 d5 d6 d7
  have hAo:=hr.l.ok
  have hAp:=hr.p.ok
  repeat' first|((first|intro A B hA hB|intro K hK|skip);first|((with_reducible refine NIf.yes ?s ?_);(case s=>simp ;done);conv=>whnf)|((with_reducible refine NIf.no ?s ?_);(case s=>simp ;done);conv=>whnf))|(refine ah ?_;(try clear hP hK Kp K);(try clear hK K);try clear hA hB A B)|refine sxW ?_ ?_<;>intro _|(intro K Kp hK hP _;conv=>whnf)|(intro K hK _;conv=>whnf)
  all_goals exact ⟨y,j,G,_,_,rfl,h2,h3,h4,hr,rfl,Qw.pre 2 rfl⟩
 ·have hw:=Ps.wrap_not (f:=fun xs=>Po.T.mk 3 Ps.none26 0 0 xs) (j:=j) hone
  have hone2:¬(xs.length:Int)=1:=by omega
  repeat' first|((first|intro A B hA hB|intro K hK|skip);first|((with_reducible refine NIf.yes ?s ?_);(case s=>simp [hone2];done);conv=>whnf)|((with_reducible refine NIf.no ?s ?_);(case s=>simp [hone2];done);conv=>whnf))|(refine ah ?_;(try clear hP hK Kp K);(try clear hK K);try clear hA hB A B)|refine sxW ?_ ?_<;>intro _|(intro K Kp hK hP _;conv=>whnf)|(intro K hK _;conv=>whnf)
  all_goals exact ⟨.mk 3 Ps.none26 0 0 xs,j,G,.slice none 0 0,u,hw,h2,h3,h4,⟨aI.nil,h5⟩,rfl,Qw.pre 2 rfl⟩
theorem fy (v:Value) (l:List Lx.T) (hl:Ps.Good l) (sp:Nat→Ps.R Po.T) (i0:Nat) (hi0:i0<l.length) (hg:∀ i,i0≤i→i<l.length→Ps.P27 v l 130 (Ps.row (l.map Lx.b) sp i) i):Ps.P27 v l 89 (Ps.rows (l.map Lx.b) sp i0) i0:=by
 intro F b hv
 refine aH.fits (K:=fun r m=>∃ p j G pu u,Ps.rows (l.map Lx.b) sp i0 = .ok p j∧i0≤j∧j<l.length∧F.le G∧Po.At G p pu u∧r.den=(AV.agg (Po.cs p pu u)).den∧Qw m [hpB G,Ps.pB b v l.length j]) (Kp:=fun ch m=>∃ j x G k,Ps.rows (l.map Lx.b) sp i0 = .bad j∧l[j]?=some x∧ch=Ps.wrong x.at_∧F.le G∧Qw m [hpB G,Ps.pB b v l.length k]) ?_ (fun r m' ⟨p,j,G,pu,u,h1,h2,h3,h4,h5,h6,h7⟩=>⟨_,_,h6.symm,h7,p,j,G,pu,u,h1,h2,h3,h4,h5,rfl,rfl⟩) (fun ch m' ⟨j,x,G,k,h1,h2,h3,h4,h5⟩=>⟨_,h5,j,x,G,k,h1,h2,h3,h4,rfl⟩)
 have cc:=iU v l hl Ps.wBar 130 (Ps.row (l.map Lx.b) sp) i0 hi0 hg F b hv
 have hn:=hl.few
 unfold Ps.rows
 generalize Ps.chain (l.map Lx.b) Ps.wBar (Ps.row (l.map Lx.b) sp) i0=q at *
 refine ax Tryz.func89 rfl (by decide) ?_
 unfold Ps.pB at cc ⊢
 unfold Ps.wBar at cc
 repeat' first|(intro K Kp hK hP;(with_reducible refine gCX ?_);(refine cX [0,1] cc rfl rfl ?_ ?_;((rintro _ _ ⟨xs,j,G,u,h1,h2,h3,h4,h5,rfl,rfl⟩)<;>refine ⟨rfl,_,rfl,?_⟩);rotate_right;((rintro _ _ ⟨j,x,G,k,h1,h2,rfl,h4,rfl⟩)<;>refine ⟨rfl,?_⟩);all_goals (conv=>whnf)))|(refine ah ?_;(try clear hP hK Kp K);try clear hK K)|refine sxW ?_ ?_<;>intro _|(intro K Kp hK hP _;conv=>whnf)|(intro K hK _;conv=>whnf)
 ·refine ⟨j,x,G,k,?_,h2,rfl,h4,Qw.pre 2 rfl⟩
  rw [h1]
  rfl
 have huk:=h5.ok
 subst h1
 by_cases hone:xs.length=1
 ·obtain ⟨y,rfl⟩:=List.length_eq_one_iff.1 hone
  obtain ⟨pA,pcap,A,cap,hr,d0,d1,d2,d3,d4,d5,d6,d7⟩:=h5.get (i:=0) (x:=y) rfl
  rw [Nat.zero_mul] at d0 d1 d2 d3 d4 d5 d6 d7
  have hAo:=hr.l.ok
  have hAp:=hr.p.ok
  repeat' first|((first|intro A B hA hB|intro K hK|skip);first|((with_reducible refine NIf.yes ?s ?_);(case s=>simp ;done);conv=>whnf)|((with_reducible refine NIf.no ?s ?_);(case s=>simp ;done);conv=>whnf))|(refine ah ?_;(try clear hP hK Kp K);(try clear hK K);try clear hA hB A B)|refine sxW ?_ ?_<;>intro _|(intro K Kp hK hP _;conv=>whnf)|(intro K hK _;conv=>whnf)
  all_goals exact ⟨y,j,G,_,_,rfl,h2,h3,h4,hr,rfl,Qw.pre 2 rfl⟩
 ·have hw:=Ps.wrap_not (f:=fun xs=>Po.T.mk 4 Ps.none26 0 0 xs) (j:=j) hone
  have hone2:¬(xs.length:Int)=1:=by omega
  repeat' first|((first|intro A B hA hB|intro K hK|skip);first|((with_reducible refine NIf.yes ?s ?_);(case s=>simp [hone2];done);conv=>whnf)|((with_reducible refine NIf.no ?s ?_);(case s=>simp [hone2];done);conv=>whnf))|(refine ah ?_;(try clear hP hK Kp K);(try clear hK K);try clear hA hB A B)|refine sxW ?_ ?_<;>intro _|(intro K Kp hK hP _;conv=>whnf)|(intro K hK _;conv=>whnf)
  all_goals exact ⟨.mk 4 Ps.none26 0 0 xs,j,G,.slice none 0 0,u,hw,h2,h3,h4,⟨aI.nil,h5⟩,rfl,Qw.pre 2 rfl⟩
end Go.Proofs.YtmehinfgdcmmjaaGreatDoor
