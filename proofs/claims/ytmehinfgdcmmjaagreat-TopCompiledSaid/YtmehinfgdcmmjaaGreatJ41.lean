import Derived.Test.YtmehinfgdcmmjaaGreatJ40
import Derived.Test.YtmehinfgdcmmjaaGreatJ25
import Derived.Test.YtmehinfgdcmmjaaGreatJ23
import Derived.Test.YtmehinfgdcmmjaaGreatJ7
namespace Go.Proofs.YtmehinfgdcmmjaaGreat
open Go.Sx
set_option maxRecDepth 20000
set_option linter.unusedSimpArgs false
set_option linter.unusedVariables false
set_option maxHeartbeats 4000000
theorem iZ (v:Value) (l:List Lx.T) (hl:Ps.Good l) (ha:Ps.Apart l):∀ (n i:Nat),l.length - i≤n→i<l.length→Ps.D26 v l 157 (Ps.part (l.map Lx.b) n i) i
 | 0,i,h0,h1=>by omega
 | n+1,i,hni,hil=>by
  intro F hv
  refine NCall.know (K:=fun r m=>∃ (y:Pd.T) (j:Nat) (G:Heap) (w:Value) (ok:Bool),F.le G∧i≤j∧j<l.length∧Ps.part (l.map Lx.b) (n+1) i=(if ok=true then .ok y j else .bad j)∧r.den=(AV.tup [.agg (Pd.cs y w),.int .i64 j,.bool ok]).den∧((Pd.Row G w y.l∧MemFits m [hpB G])∨(∃ ps:List (Pd.T × Value),y.l=ps.map (·.1)∧(∀ p∈ps,Pd.Row G p.2 p.1.l)∧MemFits m [hpB G,⟨addrOf w,Pd.psC ps,.row w 30 4 ps.length⟩]))) ?_ fun r m' hq ⟨w0,hw0⟩=>?_
  rotate_left
  ·obtain ⟨y,j,G,w,ok,h1,h2,h3,h4,h5,h6⟩:=hq
   rcases h6 with ⟨h6,h7⟩ | ⟨ps,e,h6,h7⟩
   ·exact ⟨_,_,h5.symm,h7,y,w,j,G,ok,h1,h6,h2,h3,h4,rfl,rfl⟩
   ·have hok:=((h7 w0 hw0).1.row (List.mem_cons_of_mem _ (List.mem_cons_self ..))).1
    have hrow:=aJ (F:=G) (sz:=4) (enc:=Pd.psV) hok (Pd.psC_den ps) (fun x _=>rfl)
    have hr:=Pd.row_of hrow fun p hp=>Pd.Row.mono addF.old (h6 p hp)
    rw [← e] at hr
    exact ⟨_,_,h5.symm,h7.trans (MemFits.freeze (m:=[])),y,w,j,_,ok,h1.trans addF.old,hr,h2,h3,h4,rfl,rfl⟩
  have hn:=hl.few
  have hx:l[i]?=some l[i]:=List.getElem?_eq_getElem hil
  have hih:∀ i',i+1≤i'→i'<l.length→Ps.D26 v l 157 (Ps.part (l.map Lx.b) n i') i':=fun i' h1 h2=>iZ v l hl ha n i' (by omega) h2
  have hic:=fun h=>ia v l hl (Ps.group (l.map Lx.b) (Ps.part (l.map Lx.b) n)) (i+1) h fun i' h1 h2=>gc v l hl (Ps.part (l.map Lx.b) n) i' h2 fun i'' h3 h4=>hih i'' (by omega) h4
  have c1:=aR F v l hv hn hx Ps.wTrue
  have c2:=aR F v l hv hn hx Ps.wFalse
  have c3:=aR F v l hv hn hx Ps.wNot
  have c4:=aR F v l hv hn hx Ps.wOpen
  have ca:=fc F v l hv hn hl ha hil 6 (by decide) Ps.wEq
  have n1:=fun s=>hl.next hx (s:=s)
  have hspec:Ps.part (l.map Lx.b) (n+1) i=if Ps.is (l.map Lx.b) i Ps.wTrue=true then .ok (.mk 1 0 0 []) (i+1)
   else if Ps.is (l.map Lx.b) i Ps.wFalse=true then .ok (.mk 2 0 0 []) (i+1)
   else if Ps.is (l.map Lx.b) i Ps.wNot=true then match Ps.part (l.map Lx.b) n (i+1) with
    | .ok x j=>.ok (.mk 4 0 0 [x]) j
    | .bad j=>.bad j
   else if Ps.is (l.map Lx.b) i Ps.wOpen=true then Ps.shut (l.map Lx.b) (Ps.cond (l.map Lx.b) (Ps.part (l.map Lx.b) n) (i+1))
   else match Ps.assign (l.map Lx.b) 6 Ps.wEq i with
    | .ok (f,v) j=>.ok (.mk 3 f v []) j
    | .bad j=>.bad j:=by
   rw [Ps.part]
   split
   ·rfl
   split
   ·rfl
   split
   ·cases Ps.part (l.map Lx.b) n (i+1)<;>rfl
   split
   ·rfl
   ·rcases Ps.assign (l.map Lx.b) 6 Ps.wEq i with ⟨⟨f,v⟩,j⟩ | j<;>rfl
  have m1:=n1 Ps.wTrue
  have m2:=n1 Ps.wFalse
  have m3:=n1 Ps.wNot
  have m4:=n1 Ps.wOpen
  generalize Ps.part (l.map Lx.b) (n+1) i=res at *
  generalize Ps.is (l.map Lx.b) i Ps.wTrue=q1 at *
  generalize Ps.is (l.map Lx.b) i Ps.wFalse=q2 at *
  generalize Ps.is (l.map Lx.b) i Ps.wNot=q3 at *
  generalize Ps.is (l.map Lx.b) i Ps.wOpen=q4 at *
  generalize Ps.assign (l.map Lx.b) 6 Ps.wEq i=qa at *
  unfold Ps.wTrue at c1
  unfold Ps.wFalse at c2
  unfold Ps.wNot at c3
  unfold Ps.wOpen at c4
  unfold Ps.wEq at ca
  refine aA Tryz.func157 rfl (by decide) ?_
  cases q1 with
  | true =>
   rw [if_pos rfl] at hspec
   repeat' first|(intro K hK;(with_reducible refine gC ?_);refine cS [0] c1 ?_)|(refine sxZ ?_;try clear hK K)|refine sxW ?_ ?_<;>intro _|(intro K hK _;conv=>whnf)
   all_goals exact ⟨.mk 1 0 0 [],i+1,F,.slice none 0 0,true,F.le_refl,by omega,m1 rfl,hspec,rfl,.inl ⟨aH.nil,MemFits.pre 1 rfl⟩⟩
  | false =>
  rw [if_neg (by decide)] at hspec
  cases q2 with
  | true =>
   rw [if_pos rfl] at hspec
   repeat' first|(intro K hK;(with_reducible refine gC ?_);first|refine cS [0] c1 ?_|refine cS [0] c2 ?_)|(refine sxZ ?_;try clear hK K)|refine sxW ?_ ?_<;>intro _|(intro K hK _;conv=>whnf)
   all_goals exact ⟨.mk 2 0 0 [],i+1,F,.slice none 0 0,true,F.le_refl,by omega,m2 rfl,hspec,rfl,.inl ⟨aH.nil,MemFits.pre 1 rfl⟩⟩
  | false =>
  rw [if_neg (by decide)] at hspec
  cases q3 with
  | true =>
   rw [if_pos rfl] at hspec
   have cp:=hih (i+1) (Nat.le_refl _) (m3 rfl) F hv
   repeat' first|(intro K hK;(with_reducible refine gC ?_);first|refine cS [0] c1 ?_|refine cS [0] c2 ?_|refine cS [0] c3 ?_|(refine cN [0] cp ?_;rintro _ _ ⟨x,u,j,G,ok,h1,h2,h3,h4,h5,rfl,rfl⟩;refine cR ?_))|(refine sxZ ?_;try clear hK K)|refine sxW ?_ ?_<;>intro _|(intro K hK _;conv=>whnf)
   rename_i b2
   exact ⟨.mk 4 0 0 [x],j,G,.slice (some ⟨b2,0,none⟩) 1 1,ok,h1,by omega,h4,by rw [hspec,h5];cases ok<;>rfl,rfl,.inr ⟨[(x,u)],rfl,fun p hp=>by rw [List.mem_singleton.1 hp];exact h2,MemFits.pick [0,3] (by decide) rfl⟩⟩
  | false =>
  rw [if_neg (by decide)] at hspec
  cases q4 with
  | true =>
   rw [if_pos rfl] at hspec
   have cp:=hic (m4 rfl) F hv
   have ct:=fun G (h:F.le G) j (hj:j<l.length)=>aR G v l (Ps.Toks.mono h hv) hn (List.getElem?_eq_getElem hj) Ps.wShut
   have nt:=fun j (hj:j<l.length)=>hl.next (List.getElem?_eq_getElem hj) (s:=Ps.wShut)
   have e:Ps.cond (l.map Lx.b) (Ps.part (l.map Lx.b) n) (i+1)=Ps.wrap (fun xs=>Pd.T.mk 6 0 0 xs) (Ps.chain (l.map Lx.b) Ps.wOr (Ps.group (l.map Lx.b) (Ps.part (l.map Lx.b) n)) (i+1)):=rfl
   rw [e] at hspec
   generalize Ps.wrap (fun xs=>Pd.T.mk 6 0 0 xs) (Ps.chain (l.map Lx.b) Ps.wOr (Ps.group (l.map Lx.b) (Ps.part (l.map Lx.b) n)) (i+1))=qc at *
   rcases qc with ⟨y,k⟩ | k
   ·have cp:NCall Tryz.prog 95 [.hs v l.length,.int .i64 (i+1:Nat)] [hpB F] fun r m=>∃ u G,F.le G∧Pd.Row G u y.l∧i+1≤k∧k<l.length∧r = .tup [.agg (Pd.cs y u),.int .i64 k,.bool true]∧m=[hpB G]:=cp.mono fun r m h=>by
     obtain ⟨x,u,j,G,ok,h1,h2,h3,h4,h5,h6,h7⟩:=h
     cases ok with
     | false=>cases h5
     | true=>cases h5;exact ⟨u,G,h1,h2,h3,h4,h6,h7⟩
    have ctk:=fun G (h:F.le G) (hj:k<l.length)=>ct G h k hj
    have ntk:=nt k
    have hsh:Ps.shut (l.map Lx.b) (.ok y k)=if Ps.is (l.map Lx.b) k Ps.wShut=true then .ok y (k+1) else .bad k:=rfl
    rw [hsh] at hspec
    generalize Ps.is (l.map Lx.b) k Ps.wShut=q5 at *
    unfold Ps.wShut at ctk
    cases q5 with
    | true =>
     repeat' first|(intro K hK;(with_reducible refine gC ?_);first|refine cS [0] c1 ?_|refine cS [0] c2 ?_|refine cS [0] c3 ?_|refine cS [0] c4 ?_|(refine cN [0] cp ?_;rintro _ _ ⟨u,G,h1,h2,h3,h4,rfl,rfl⟩;refine cR ?_)|refine cS [0] (ctk G h1 h4) ?_)|(refine sxZ ?_;try clear hK K)|refine sxW ?_ ?_<;>intro _|(intro K hK _;conv=>whnf)
     all_goals exact ⟨y,k+1,G,u,true,h1,by omega,ntk h4 rfl,hspec,rfl,.inl ⟨h2,MemFits.pre 1 rfl⟩⟩
    | false =>
     repeat' first|(intro K hK;(with_reducible refine gC ?_);first|refine cS [0] c1 ?_|refine cS [0] c2 ?_|refine cS [0] c3 ?_|refine cS [0] c4 ?_|(refine cN [0] cp ?_;rintro _ _ ⟨u,G,h1,h2,h3,h4,rfl,rfl⟩;refine cR ?_)|refine cS [0] (ctk G h1 h4) ?_)|(refine sxZ ?_;try clear hK K)|refine sxW ?_ ?_<;>intro _|(intro K hK _;conv=>whnf)
     all_goals exact ⟨y,k,G,u,false,h1,by omega,h4,hspec,rfl,.inl ⟨h2,MemFits.pre 1 rfl⟩⟩
   ·have cp:NCall Tryz.prog 95 [.hs v l.length,.int .i64 (i+1:Nat)] [hpB F] fun r m=>∃ y u G,F.le G∧Pd.Row G u y.l∧i+1≤k∧k<l.length∧r = .tup [.agg (Pd.cs y u),.int .i64 k,.bool false]∧m=[hpB G]:=cp.mono fun r m h=>by
     obtain ⟨x,u,j,G,ok,h1,h2,h3,h4,h5,h6,h7⟩:=h
     cases ok with
     | true=>cases h5
     | false=>cases h5;exact ⟨x,u,G,h1,h2,h3,h4,h6,h7⟩
    repeat' first|(intro K hK;(with_reducible refine gC ?_);first|refine cS [0] c1 ?_|refine cS [0] c2 ?_|refine cS [0] c3 ?_|refine cS [0] c4 ?_|(refine cN [0] cp ?_;rintro _ _ ⟨y,u,G,h1,h2,h3,h4,rfl,rfl⟩;refine cR ?_))|(refine sxZ ?_;try clear hK K)|refine sxW ?_ ?_<;>intro _|(intro K hK _;conv=>whnf)
    all_goals exact ⟨y,k,G,u,false,h1,by omega,h4,hspec,rfl,.inl ⟨h2,MemFits.pre 1 rfl⟩⟩
  | false =>
  rw [if_neg (by decide)] at hspec
  repeat' first|(intro K hK;(with_reducible refine gC ?_);first|refine cS [0] c1 ?_|refine cS [0] c2 ?_|refine cS [0] c3 ?_|refine cS [0] c4 ?_|(refine cN [0] ca ?_;rintro _ _ ⟨f,w,j,ok,h1,h2,h3,rfl,rfl⟩;refine cR ?_))|(refine sxZ ?_;try clear hK K)|refine sxW ?_ ?_<;>intro _|(intro K hK _;conv=>whnf)
  all_goals exact ⟨.mk 3 f w [],j,F,.slice none 0 0,ok,F.le_refl,h1,h2,by rw [hspec,h3];cases ok<;>rfl,rfl,.inl ⟨aH.nil,MemFits.pre 1 rfl⟩⟩
namespace Ps
theorem Out26.ok {F:Heap} {l:List Lx.T} {q:R Pd.T} {i j:Nat} {x:Pd.T} {r:AV} {m:List Blk} (hq:q = .ok x j) (h:Out26 F l q i r m):∃ u G,F.le G∧Pd.Row G u x.l∧i≤j∧j<l.length∧r = .tup [.agg (Pd.cs x u),.int .i64 j,.bool true]∧m=[hpB G]:=by
 obtain ⟨y,u,k,G,ok,h1,h2,h3,h4,h5,h6,h7⟩:=h
 rw [hq] at h5
 cases ok with
 | false=>cases h5
 | true=>cases h5;exact ⟨u,G,h1,h2,h3,h4,h6,h7⟩
theorem Out26.no {F:Heap} {l:List Lx.T} {q:R Pd.T} {i j:Nat} {r:AV} {m:List Blk} (hq:q = .bad j) (h:Out26 F l q i r m):∃ y u G,F.le G∧Pd.Row G u y.l∧i≤j∧j<l.length∧r = .tup [.agg (Pd.cs y u),.int .i64 j,.bool false]∧m=[hpB G]:=by
 obtain ⟨y,u,k,G,ok,h1,h2,h3,h4,h5,h6,h7⟩:=h
 rw [hq] at h5
 cases ok with
 | true=>cases h5
 | false=>cases h5;exact ⟨y,u,G,h1,h2,h3,h4,h6,h7⟩
theorem Out27.ok {F:Heap} {l:List Lx.T} {q:R Po.T} {i j:Nat} {x:Po.T} {r:AV} {m:List Blk} (hq:q = .ok x j) (h:Out27 F l q i r m):∃ pu u G,F.le G∧Po.At G x pu u∧i≤j∧j<l.length∧r = .tup [.agg (Po.cs x pu u),.int .i64 j,.bool true]∧m=[hpB G]:=by
 obtain ⟨y,pu,u,k,G,ok,h1,h2,h3,h4,h5,h6,h7⟩:=h
 rw [hq] at h5
 cases ok with
 | false=>cases h5
 | true=>cases h5;exact ⟨pu,u,G,h1,h2,h3,h4,h6,h7⟩
theorem Out27.no {F:Heap} {l:List Lx.T} {q:R Po.T} {i j:Nat} {r:AV} {m:List Blk} (hq:q = .bad j) (h:Out27 F l q i r m):∃ y pu u G,F.le G∧Po.At G y pu u∧i≤j∧j<l.length∧r = .tup [.agg (Po.cs y pu u),.int .i64 j,.bool false]∧m=[hpB G]:=by
 obtain ⟨y,pu,u,k,G,ok,h1,h2,h3,h4,h5,h6,h7⟩:=h
 rw [hq] at h5
 cases ok with
 | true=>cases h5
 | false=>cases h5;exact ⟨y,pu,u,G,h1,h2,h3,h4,h6,h7⟩
end Ps
theorem kA (v:Value) (l:List Lx.T) (hl:Ps.Good l) (cnd:Nat→Ps.R Pd.T) (sp:Nat→Ps.R Po.T) (i0:Nat) (hi0:i0<l.length) (hc:Ps.D26 v l 95 (cnd i0) i0) (hs:∀ i,i0<i→i<l.length→Ps.D27 v l 64 (sp i) i):Ps.D27 v l 96 (Ps.choice (l.map Lx.b) cnd sp i0) i0:=by
 intro F hv
 refine NCall.know (K:=fun r m=>∃ (y:Po.T) (j:Nat) (G:Heap) (pw w:Value) (ok:Bool),F.le G∧i0≤j∧j<l.length∧Ps.choice (l.map Lx.b) cnd sp i0=(if ok=true then .ok y j else .bad j)∧r.den=(AV.tup [.agg (Po.cs y pw w),.int .i64 j,.bool ok]).den∧((Po.At G y pw w∧MemFits m [hpB G])∨(∃ ps:List (Po.L),y.l=ps.map (·.x)∧Pd.Row G pw y.p.l∧(∀ p∈ps,Po.At G p.x p.pu p.u)∧MemFits m [hpB G,⟨addrOf w,Po.psC ps,.row w 33 8 ps.length⟩]))) ?_ fun r m' hq ⟨w0,hw0⟩=>?_
 rotate_left
 ·obtain ⟨y,j,G,pw,w,ok,h1,h2,h3,h4,h5,h6⟩:=hq
  rcases h6 with ⟨h6,h7⟩ | ⟨ps,e,hpw,h6,h7⟩
  ·exact ⟨_,_,h5.symm,h7,y,pw,w,j,G,ok,h1,h6,h2,h3,h4,rfl,rfl⟩
  ·have hok:=((h7 w0 hw0).1.row (List.mem_cons_of_mem _ (List.mem_cons_self ..))).1
   have hrow:=aJ (F:=G) (sz:=8) (enc:=Po.psV) hok (Po.psC_den ps) (fun x _=>rfl)
   have hr:=Po.row_of hrow fun p hp=>Po.At.mono addF.old (h6 p hp)
   rw [← e] at hr
   exact ⟨_,_,h5.symm,h7.trans (MemFits.freeze (m:=[])),y,pw,w,j,_,ok,h1.trans addF.old,⟨Pd.Row.mono addF.old hpw,hr⟩,h2,h3,h4,rfl,rfl⟩
 have hn:=hl.few
 have c0:=hc F hv
 have ct:=fun G (h:F.le G) j (hj:j<l.length) s=>aR G v l (Ps.Toks.mono h hv) hn (List.getElem?_eq_getElem hj) s
 have nt:=fun j (hj:j<l.length) s=>hl.next (List.getElem?_eq_getElem hj) (s:=s)
 have hspec:Ps.choice (l.map Lx.b) cnd sp i0=match cnd i0 with
  | .bad j=>.bad j
  | .ok c j=>if Ps.is (l.map Lx.b) j Ps.wThen=true then match sp (j+1) with
    | .bad j=>.bad j
    | .ok a j=>if Ps.is (l.map Lx.b) j Ps.wElse=true then match sp (j+1) with
      | .bad j=>.bad j
      | .ok b j=>.ok (.mk 5 c 0 0 [a,b]) j
     else .bad j
   else .bad j:=by
  unfold Ps.choice
  cases cnd i0 with
  | bad=>rfl
  | ok c j =>
   dsimp only
   split
   ·cases sp (j+1) with
    | bad=>rfl
    | ok a j' =>
     dsimp only
     split
     ·cases sp (j'+1)<;>rfl
     ·rfl
   ·rfl
 generalize Ps.choice (l.map Lx.b) cnd sp i0=res at *
 refine aA Tryz.func96 rfl (by decide) ?_
 cases hq0:cnd i0 with
 | bad k =>
  rw [hq0] at c0 hspec
  have c0:=c0.mono fun r m h=>Ps.Out26.no rfl h
  repeat' first|(intro K hK;(with_reducible refine gC ?_);(refine cN [0] c0 ?_;rintro _ _ ⟨y,u,G,h1,h2,h3,h4,rfl,rfl⟩;refine cR ?_))|(refine sxZ ?_;try clear hK K)|refine sxW ?_ ?_<;>intro _|(intro K hK _;conv=>whnf)
  all_goals exact ⟨.mk 5 y 0 0 [],k,G,u,.slice none 0 0,false,h1,h3,h4,hspec,rfl,.inl ⟨⟨h2,aH.nil⟩,MemFits.pre 1 rfl⟩⟩
 | ok c j =>
 rw [hq0] at c0 hspec
 dsimp only at hspec
 have c0:=c0.mono fun r m h=>Ps.Out26.ok rfl h
 have ct1:=fun G h hj=>ct G h j hj Ps.wThen
 have nt1:=fun hj=>nt j hj Ps.wThen
 cases q1:Ps.is (l.map Lx.b) j Ps.wThen with
 | false =>
  rw [q1] at ct1
  rw [q1,if_neg (by decide)] at hspec
  unfold Ps.wThen at ct1
  repeat' first|(intro K hK;(with_reducible refine gC ?_);first|(refine cN [0] c0 ?_;rintro _ _ ⟨u,G,h1,h2,h3,h4,rfl,rfl⟩;refine cR ?_)|refine cS [0] (ct1 G h1 h4) ?_)|(refine sxZ ?_;try clear hK K)|refine sxW ?_ ?_<;>intro _|(intro K hK _;conv=>whnf)
  all_goals exact ⟨.mk 5 c 0 0 [],j,G,u,.slice none 0 0,false,h1,h3,h4,hspec,rfl,.inl ⟨⟨h2,aH.nil⟩,MemFits.pre 1 rfl⟩⟩
 | true =>
 rw [q1] at ct1
 rw [q1,if_pos rfl] at hspec
 unfold Ps.wThen at ct1
 have cs1:=fun G (h:F.le G) h1 h2=>hs (j+1) h1 h2 G (Ps.Toks.mono h hv)
 cases hq1:sp (j+1) with
 | bad k =>
  rw [hq1] at hspec cs1
  have cs1:=fun G h h1 h2=>(cs1 G h h1 h2).mono fun r m h=>Ps.Out27.no rfl h
  repeat' first|(intro K hK;(with_reducible refine gC ?_);first|(refine cN [0] c0 ?_;rintro _ _ ⟨u,G,h1,h2,h3,h4,rfl,rfl⟩;refine cR ?_)|refine cS [0] (ct1 G h1 h4) ?_|(refine cN [0] (cs1 G h1 (by omega) (nt1 h4 q1)) ?_;rintro _ _ ⟨y,py,uy,G2,g1,g2,g3,g4,rfl,rfl⟩;refine cR ?_))|(refine sxZ ?_;try clear hK K)|refine sxW ?_ ?_<;>intro _|(intro K hK _;conv=>whnf)
  all_goals exact ⟨.mk 5 c 0 0 [],k,G2,u,.slice none 0 0,false,h1.trans g1,by omega,g4,hspec,rfl,.inl ⟨⟨Pd.Row.mono g1 h2,aH.nil⟩,MemFits.pre 1 rfl⟩⟩
 | ok a ja =>
 rw [hq1] at hspec cs1
 dsimp only at hspec
 have cs1:=fun G h h1 h2=>(cs1 G h h1 h2).mono fun r m h=>Ps.Out27.ok rfl h
 have ct2:=fun G h hj=>ct G h ja hj Ps.wElse
 have nt2:=fun hj=>nt ja hj Ps.wElse
 cases q2:Ps.is (l.map Lx.b) ja Ps.wElse with
 | false =>
  rw [q2] at ct2
  rw [q2,if_neg (by decide)] at hspec
  unfold Ps.wElse at ct2
  repeat' first|(intro K hK;(with_reducible refine gC ?_);first|(refine cN [0] c0 ?_;rintro _ _ ⟨u,G,h1,h2,h3,h4,rfl,rfl⟩;refine cR ?_)|refine cS [0] (ct1 G h1 h4) ?_|(refine cN [0] (cs1 G h1 (by omega) (nt1 h4 q1)) ?_;rintro _ _ ⟨py,uy,G2,g1,g2,g3,g4,rfl,rfl⟩;refine cR ?_)|refine cS [0] (ct2 G2 (h1.trans g1) g4) ?_)|(refine sxZ ?_;try clear hK K)|refine sxW ?_ ?_<;>intro _|(intro K hK _;conv=>whnf)
  all_goals exact ⟨.mk 5 c 0 0 [],ja,G2,u,.slice none 0 0,false,h1.trans g1,by omega,g4,hspec,rfl,.inl ⟨⟨Pd.Row.mono g1 h2,aH.nil⟩,MemFits.pre 1 rfl⟩⟩
 | true =>
 rw [q2] at ct2
 rw [q2,if_pos rfl] at hspec
 unfold Ps.wElse at ct2
 have cs2:=fun G (h:F.le G) h1 h2=>hs (ja+1) h1 h2 G (Ps.Toks.mono h hv)
 unfold Ps.Out27 at cs2
 repeat' first|(intro K hK;(with_reducible refine gC ?_);first|(refine cN [0] c0 ?_;rintro _ _ ⟨u,G,h1,h2,h3,h4,rfl,rfl⟩;refine cR ?_)|refine cS [0] (ct1 G h1 h4) ?_|(refine cN [0] (cs1 G h1 (by omega) (nt1 h4 q1)) ?_;rintro _ _ ⟨py,uy,G2,g1,g2,g3,g4,rfl,rfl⟩;refine cR ?_)|refine cS [0] (ct2 G2 (h1.trans g1) g4) ?_|(refine cN [0] (cs2 G2 (h1.trans g1) (by omega) (nt2 g4 q2)) ?_;rintro _ _ ⟨d,pd,ud,jd,G3,ok,e1,e2,e3,e4,e5,rfl,rfl⟩;refine cR ?_))|(refine sxZ ?_;try clear hK K)|refine sxW ?_ ?_<;>intro _|(intro K hK _;conv=>whnf)
 rename_i bw
 refine ⟨.mk 5 c 0 0 [a,d],jd,G3,u,.slice (some ⟨bw,0,none⟩) 2 2,ok,(h1.trans g1).trans e1,by omega,e4,by rw [hspec,e5];cases ok<;>rfl,rfl,.inr ⟨[⟨a,py,uy⟩,⟨d,pd,ud⟩],rfl,Pd.Row.mono (g1.trans e1) h2,fun p hp=>?_,MemFits.pick [0,6] (by decide) rfl⟩⟩
 rcases List.mem_cons.1 hp with rfl | hp
 ·exact Po.At.mono e1 g2
 ·rw [List.mem_singleton.1 hp];exact e2
theorem iW (v:Value) (l:List Lx.T) (hl:Ps.Good l) (ha:Ps.Apart l):∀ (n i:Nat),l.length - i≤n→i<l.length→Ps.D27 v l 64 (Ps.step (l.map Lx.b) n i) i
 | 0,i,h0,h1=>by omega
 | n+1,i,hni,hil=>by
  intro F hv
  refine NCall.fits (K:=fun r m=>∃ (y:Po.T) (j:Nat) (G:Heap) (pw w:Value) (ok:Bool),F.le G∧i≤j∧j<l.length∧Ps.step (l.map Lx.b) (n+1) i=(if ok=true then .ok y j else .bad j)∧r.den=(AV.tup [.agg (Po.cs y pw w),.int .i64 j,.bool ok]).den∧Po.At G y pw w∧MemFits m [hpB G]) ?_ fun r m' ⟨y,j,G,pw,w,ok,h1,h2,h3,h4,h5,h6,h7⟩=>⟨_,_,h5.symm,h7,y,pw,w,j,G,ok,h1,h6,h2,h3,h4,rfl,rfl⟩
  have hn:=hl.few
  have hx:l[i]?=some l[i]:=List.getElem?_eq_getElem hil
  have hlen:(l.map Lx.b).length=l.length:=List.length_map ..
  have hih:∀ i',i+1≤i'→i'<l.length→Ps.D27 v l 64 (Ps.step (l.map Lx.b) n i') i':=fun i' h1 h2=>iW v l hl ha n i' (by omega) h2
  have hip:=fun h=>iY v l hl (Ps.row (l.map Lx.b) (Ps.step (l.map Lx.b) n)) (i+1) h fun i' h1 h2=>j7 v l hl (Ps.step (l.map Lx.b) n) i' h2 fun i'' h3 h4=>hih i'' (by omega) h4
  have hic:=fun h=>ia v l hl (Ps.group (l.map Lx.b) (Ps.part (l.map Lx.b) (l.map Lx.b).length)) (i+1) h fun i' h1 h2=>gc v l hl (Ps.part (l.map Lx.b) (l.map Lx.b).length) i' h2 fun i'' h3 h4=>iZ v l hl ha (l.map Lx.b).length i'' (by rw [hlen];omega) h4
  have hch:=fun h=>kA v l hl (Ps.cond (l.map Lx.b) (Ps.part (l.map Lx.b) (l.map Lx.b).length)) (Ps.step (l.map Lx.b) n) (i+1) h (hic h) fun i' h1 h2=>hih i' (by omega) h2
  have c1:=aR F v l hv hn hx Ps.wDrop
  have c2:=aR F v l hv hn hx Ps.wId
  have c3:=aR F v l hv hn hx Ps.wWhen
  have c4:=aR F v l hv hn hx Ps.wIf
  have c5:=aR F v l hv hn hx Ps.wOpen
  have ca:=fc F v l hv hn hl ha hil 5 (by decide) Ps.wSet
  have n1:=fun s=>hl.next hx (s:=s)
  have hspec:Ps.step (l.map Lx.b) (n+1) i=if Ps.is (l.map Lx.b) i Ps.wDrop=true then .ok (.mk 1 (.mk 2 0 0 []) 0 0 []) (i+1)
   else if Ps.is (l.map Lx.b) i Ps.wId=true then .ok (.mk 1 (.mk 1 0 0 []) 0 0 []) (i+1)
   else if Ps.is (l.map Lx.b) i Ps.wWhen=true then match Ps.cond (l.map Lx.b) (Ps.part (l.map Lx.b) (l.map Lx.b).length) (i+1) with
    | .ok c j=>.ok (.mk 1 c 0 0 []) j
    | .bad j=>.bad j
   else if Ps.is (l.map Lx.b) i Ps.wIf=true then Ps.choice (l.map Lx.b) (Ps.cond (l.map Lx.b) (Ps.part (l.map Lx.b) (l.map Lx.b).length)) (Ps.step (l.map Lx.b) n) (i+1)
   else if Ps.is (l.map Lx.b) i Ps.wOpen=true then Ps.shut (l.map Lx.b) (Ps.rows (l.map Lx.b) (Ps.step (l.map Lx.b) n) (i+1))
   else match Ps.assign (l.map Lx.b) 5 Ps.wSet i with
    | .ok (f,v) j=>.ok (.mk 2 Ps.none26 f v []) j
    | .bad j=>.bad j:=by
   rw [Ps.step]
   split
   ·rfl
   split
   ·rfl
   split
   ·cases Ps.cond (l.map Lx.b) (Ps.part (l.map Lx.b) (l.map Lx.b).length) (i+1)<;>rfl
   split
   ·rfl
   split
   ·rfl
   ·rcases Ps.assign (l.map Lx.b) 5 Ps.wSet i with ⟨⟨f,v⟩,j⟩ | j<;>rfl
  have m1:=n1 Ps.wDrop
  have m2:=n1 Ps.wId
  have m3:=n1 Ps.wWhen
  have m4:=n1 Ps.wIf
  have m5:=n1 Ps.wOpen
  generalize Ps.step (l.map Lx.b) (n+1) i=res at *
  generalize Ps.is (l.map Lx.b) i Ps.wDrop=q1 at *
  generalize Ps.is (l.map Lx.b) i Ps.wId=q2 at *
  generalize Ps.is (l.map Lx.b) i Ps.wWhen=q3 at *
  generalize Ps.is (l.map Lx.b) i Ps.wIf=q4 at *
  generalize Ps.is (l.map Lx.b) i Ps.wOpen=q5 at *
  generalize Ps.assign (l.map Lx.b) 5 Ps.wSet i=qa at *
  unfold Ps.wDrop at c1
  unfold Ps.wId at c2
  unfold Ps.wWhen at c3
  unfold Ps.wIf at c4
  unfold Ps.wOpen at c5
  unfold Ps.wSet at ca
  refine aA Tryz.func64 rfl (by decide) ?_
  cases q1 with
  | true =>
   rw [if_pos rfl] at hspec
   repeat' first|(intro K hK;(with_reducible refine gC ?_);refine cS [0] c1 ?_)|(refine sxZ ?_;try clear hK K)|refine sxW ?_ ?_<;>intro _|(intro K hK _;conv=>whnf)
   all_goals exact ⟨.mk 1 (.mk 2 0 0 []) 0 0 [],i+1,F,.slice none 0 0,.slice none 0 0,true,F.le_refl,by omega,m1 rfl,hspec,rfl,⟨aH.nil,aH.nil⟩,MemFits.pre 1 rfl⟩
  | false =>
  rw [if_neg (by decide)] at hspec
  cases q2 with
  | true =>
   rw [if_pos rfl] at hspec
   repeat' first|(intro K hK;(with_reducible refine gC ?_);first|refine cS [0] c1 ?_|refine cS [0] c2 ?_)|(refine sxZ ?_;try clear hK K)|refine sxW ?_ ?_<;>intro _|(intro K hK _;conv=>whnf)
   all_goals exact ⟨.mk 1 (.mk 1 0 0 []) 0 0 [],i+1,F,.slice none 0 0,.slice none 0 0,true,F.le_refl,by omega,m2 rfl,hspec,rfl,⟨aH.nil,aH.nil⟩,MemFits.pre 1 rfl⟩
  | false =>
  rw [if_neg (by decide)] at hspec
  cases q3 with
  | true =>
   rw [if_pos rfl] at hspec
   have cp:=hic (m3 rfl) F hv
   have e:Ps.wrap (fun xs=>Pd.T.mk 6 0 0 xs) (Ps.chain (l.map Lx.b) Ps.wOr (Ps.group (l.map Lx.b) (Ps.part (l.map Lx.b) (l.map Lx.b).length)) (i+1))=Ps.cond (l.map Lx.b) (Ps.part (l.map Lx.b) (l.map Lx.b).length) (i+1):=rfl
   rw [e] at cp
   unfold Ps.Out26 at cp
   generalize Ps.cond (l.map Lx.b) (Ps.part (l.map Lx.b) (l.map Lx.b).length) (i+1)=qc at *
   repeat' first|(intro K hK;(with_reducible refine gC ?_);first|refine cS [0] c1 ?_|refine cS [0] c2 ?_|refine cS [0] c3 ?_|(refine cN [0] cp ?_;rintro _ _ ⟨x,u,j,G,ok,h1,h2,h3,h4,h5,rfl,rfl⟩;refine cR ?_))|(refine sxZ ?_;try clear hK K)|refine sxW ?_ ?_<;>intro _|(intro K hK _;conv=>whnf)
   all_goals exact ⟨.mk 1 x 0 0 [],j,G,u,.slice none 0 0,ok,h1,by omega,h4,by rw [hspec,h5];cases ok<;>rfl,rfl,⟨h2,aH.nil⟩,MemFits.pre 1 rfl⟩
  | false =>
  rw [if_neg (by decide)] at hspec
  cases q4 with
  | true =>
   rw [if_pos rfl] at hspec
   have cp:=hch (m4 rfl) F hv
   unfold Ps.Out27 at cp
   generalize Ps.choice (l.map Lx.b) (Ps.cond (l.map Lx.b) (Ps.part (l.map Lx.b) (l.map Lx.b).length)) (Ps.step (l.map Lx.b) n) (i+1)=qc at *
   repeat' first|(intro K hK;(with_reducible refine gC ?_);first|refine cS [0] c1 ?_|refine cS [0] c2 ?_|refine cS [0] c3 ?_|refine cS [0] c4 ?_|(refine cN [0] cp ?_;rintro _ _ ⟨x,pu,u,j,G,ok,h1,h2,h3,h4,h5,rfl,rfl⟩;refine cR ?_))|(refine sxZ ?_;try clear hK K)|refine sxW ?_ ?_<;>intro _|(intro K hK _;conv=>whnf)
   all_goals exact ⟨x,j,G,pu,u,ok,h1,by omega,h4,by rw [hspec,h5],rfl,h2,MemFits.pre 1 rfl⟩
  | false =>
  rw [if_neg (by decide)] at hspec
  cases q5 with
  | true =>
   rw [if_pos rfl] at hspec
   have cp:=hip (m5 rfl) F hv
   have ct:=fun G (h:F.le G) j (hj:j<l.length)=>aR G v l (Ps.Toks.mono h hv) hn (List.getElem?_eq_getElem hj) Ps.wShut
   have nt:=fun j (hj:j<l.length)=>hl.next (List.getElem?_eq_getElem hj) (s:=Ps.wShut)
   have e:Ps.wrap (fun xs=>Po.T.mk 4 Ps.none26 0 0 xs) (Ps.chain (l.map Lx.b) Ps.wBar (Ps.row (l.map Lx.b) (Ps.step (l.map Lx.b) n)) (i+1))=Ps.rows (l.map Lx.b) (Ps.step (l.map Lx.b) n) (i+1):=rfl
   rw [e] at cp
   generalize Ps.rows (l.map Lx.b) (Ps.step (l.map Lx.b) n) (i+1)=qc at *
   rcases qc with ⟨y,k⟩ | k
   ·have cp:=cp.mono fun r m h=>Ps.Out27.ok rfl h
    have ctk:=fun G (h:F.le G) (hj:k<l.length)=>ct G h k hj
    have ntk:=nt k
    have hsh:Ps.shut (l.map Lx.b) (.ok y k)=if Ps.is (l.map Lx.b) k Ps.wShut=true then .ok y (k+1) else .bad k:=rfl
    rw [hsh] at hspec
    generalize Ps.is (l.map Lx.b) k Ps.wShut=q6 at *
    unfold Ps.wShut at ctk
    cases q6 with
    | true =>
     repeat' first|(intro K hK;(with_reducible refine gC ?_);first|refine cS [0] c1 ?_|refine cS [0] c2 ?_|refine cS [0] c3 ?_|refine cS [0] c4 ?_|refine cS [0] c5 ?_|(refine cN [0] cp ?_;rintro _ _ ⟨pu,u,G,h1,h2,h3,h4,rfl,rfl⟩;refine cR ?_)|refine cS [0] (ctk G h1 h4) ?_)|(refine sxZ ?_;try clear hK K)|refine sxW ?_ ?_<;>intro _|(intro K hK _;conv=>whnf)
     all_goals exact ⟨y,k+1,G,pu,u,true,h1,by omega,ntk h4 rfl,hspec,rfl,h2,MemFits.pre 1 rfl⟩
    | false =>
     repeat' first|(intro K hK;(with_reducible refine gC ?_);first|refine cS [0] c1 ?_|refine cS [0] c2 ?_|refine cS [0] c3 ?_|refine cS [0] c4 ?_|refine cS [0] c5 ?_|(refine cN [0] cp ?_;rintro _ _ ⟨pu,u,G,h1,h2,h3,h4,rfl,rfl⟩;refine cR ?_)|refine cS [0] (ctk G h1 h4) ?_)|(refine sxZ ?_;try clear hK K)|refine sxW ?_ ?_<;>intro _|(intro K hK _;conv=>whnf)
     all_goals exact ⟨y,k,G,pu,u,false,h1,by omega,h4,hspec,rfl,h2,MemFits.pre 1 rfl⟩
   ·have cp:=cp.mono fun r m h=>Ps.Out27.no rfl h
    repeat' first|(intro K hK;(with_reducible refine gC ?_);first|refine cS [0] c1 ?_|refine cS [0] c2 ?_|refine cS [0] c3 ?_|refine cS [0] c4 ?_|refine cS [0] c5 ?_|(refine cN [0] cp ?_;rintro _ _ ⟨y,pu,u,G,h1,h2,h3,h4,rfl,rfl⟩;refine cR ?_))|(refine sxZ ?_;try clear hK K)|refine sxW ?_ ?_<;>intro _|(intro K hK _;conv=>whnf)
    all_goals exact ⟨y,k,G,pu,u,false,h1,by omega,h4,hspec,rfl,h2,MemFits.pre 1 rfl⟩
  | false =>
  rw [if_neg (by decide)] at hspec
  repeat' first|(intro K hK;(with_reducible refine gC ?_);first|refine cS [0] c1 ?_|refine cS [0] c2 ?_|refine cS [0] c3 ?_|refine cS [0] c4 ?_|refine cS [0] c5 ?_|(refine cN [0] ca ?_;rintro _ _ ⟨f,w,j,ok,h1,h2,h3,rfl,rfl⟩;refine cR ?_))|(refine sxZ ?_;try clear hK K)|refine sxW ?_ ?_<;>intro _|(intro K hK _;conv=>whnf)
  all_goals exact ⟨.mk 2 Ps.none26 f w [],j,F,.slice none 0 0,.slice none 0 0,ok,F.le_refl,h1,h2,by rw [hspec,h3];cases ok<;>rfl,rfl,⟨aH.nil,aH.nil⟩,MemFits.pre 1 rfl⟩
namespace Lx
def kdN (n:Nat):Int:=if n=32∨n=9∨n=10 then 0 else if 97≤n∧n≤122 then 1 else if 48≤n∧n≤57 then 2 else if n=40∨n=41∨n=59∨n=124∨n=61 then 3 else if n=35 then 4 else if n=58 then 5 else 6
def kd (c:UInt8):Int:=kdN c.toNat
theorem kd_all:∀ n:Nat,n<256→(decide (kd n.toUInt8=0)=isSp n.toUInt8)∧(decide (kd n.toUInt8=1)=isL n.toUInt8)∧(decide (kd n.toUInt8=2)=isD n.toUInt8)∧(decide (kd n.toUInt8=3)=isS n.toUInt8)∧(decide (kd n.toUInt8=4)=decide (n.toUInt8=35))∧(decide (kd n.toUInt8=5)=decide (n.toUInt8=58)):=by decide +kernel
theorem kd_is (c:UInt8):(decide (kd c=0)=isSp c)∧(decide (kd c=1)=isL c)∧(decide (kd c=2)=isD c)∧(decide (kd c=3)=isS c)∧(decide (kd c=4)=decide (c=35))∧(decide (kd c=5)=decide (c=58)):=by
 have:=kd_all c.toNat c.toNat_lt
 have e:c.toNat.toUInt8=c:=UInt8.ofNat_toNat
 rw [e] at this
 exact this
def valid (s:List UInt8):Bool:=!s.isEmpty&&decide (s.length≤3)&&s.all isD&&!(decide (1<s.length)&&decide (s.head?=some 48))
def numD (s:List UInt8):Int:=if valid s=true then (num s:Nat) else -1
theorem itoa_valid:∀ n:Nat,n<1000→valid (Lib.itoa (n:Nat))=true∧num (Lib.itoa (n:Nat))=n:=by decide +kernel
theorem valid1:∀ i:Nat,i<10→Lib.itoa (num [(48+i).toUInt8]:Nat)=[(48+i).toUInt8]∧num [(48+i).toUInt8]<1000:=by decide +kernel
theorem valid2:∀ i:Nat,i<10→∀ j:Nat,j<10→i≠0→Lib.itoa (num [(48+i).toUInt8,(48+j).toUInt8]:Nat)=[(48+i).toUInt8,(48+j).toUInt8]∧num [(48+i).toUInt8,(48+j).toUInt8]<1000:=by decide +kernel
theorem valid3:∀ i:Nat,i<10→∀ j:Nat,j<10→∀ k:Nat,k<10→i≠0→Lib.itoa (num [(48+i).toUInt8,(48+j).toUInt8,(48+k).toUInt8]:Nat)=[(48+i).toUInt8,(48+j).toUInt8,(48+k).toUInt8]∧num [(48+i).toUInt8,(48+j).toUInt8,(48+k).toUInt8]<1000:=by decide +kernel
theorem isD_ex {c:UInt8} (h:isD c=true):∃ i:Nat,i<10∧c=(48+i).toUInt8:=by
 unfold isD at h
 simp only [Bool.and_eq_true,decide_eq_true_eq] at h
 refine ⟨c.toNat - 48,by omega,?_⟩
 rw [show 48+(c.toNat - 48)=c.toNat by omega]
 exact UInt8.ofNat_toNat.symm
theorem valid_itoa {s:List UInt8} (h:valid s=true):Lib.itoa (num s:Nat)=s∧num s<1000:=by
 unfold valid at h
 simp only [Bool.and_eq_true,Bool.not_eq_true',decide_eq_true_eq] at h
 obtain ⟨⟨⟨h1,h2⟩,h3⟩,h4⟩:=h
 match s,h1,h2,h3,h4 with
 | [a],_,_,h3,_ =>
  obtain ⟨i,hi,rfl⟩:=isD_ex (by simpa using h3)
  exact valid1 i hi
 | [a,b],_,_,h3,h4 =>
  simp only [List.all_cons,List.all_nil,Bool.and_true,Bool.and_eq_true] at h3
  obtain ⟨i,hi,rfl⟩:=isD_ex h3.1
  obtain ⟨j,hj,rfl⟩:=isD_ex h3.2
  refine valid2 i hi j hj fun e=>?_
  subst e
  simp at h4
 | [a,b,c],_,_,h3,h4 =>
  simp only [List.all_cons,List.all_nil,Bool.and_true,Bool.and_eq_true] at h3
  obtain ⟨i,hi,rfl⟩:=isD_ex h3.1
  obtain ⟨j,hj,rfl⟩:=isD_ex h3.2.1
  obtain ⟨k,hk,rfl⟩:=isD_ex h3.2.2
  refine valid3 i hi j hj k hk fun e=>?_
  subst e
  simp at h4
 | _::_::_::_::_,_,h2,_,_=>simp at h2
theorem numD_hit {n:Nat} (h:n<1000):numD (Lib.itoa (n:Nat))=n:=by
 obtain ⟨h1,h2⟩:=itoa_valid n h
 unfold numD
 rw [if_pos h1,h2]
theorem numD_none {s:List UInt8} (h:∀ n:Nat,n<1000→Lib.itoa (n:Nat)≠s):numD s = -1:=by
 unfold numD
 split
 ·rename_i hv
  have:=valid_itoa hv
  exact (h _ this.2 this.1).elim
 ·rfl
end Lx
theorem da (c:UInt8):NCall Tryz.prog 31 [.int .u8 c.toNat] [] fun r _=>r = .int .i64 (Lx.kd c):=by
 unfold Lx.kd
 have hlt:=c.toNat_lt
 generalize c.toNat=n at *
 refine aA Tryz.func31 rfl (by decide) ?_
 repeat' first|(refine sxZ ?_;try clear hK K)|refine sxW ?_ ?_<;>intro _|(intro K hK _;conv=>whnf)
 all_goals
  unfold Lx.kdN
  repeat' split
  all_goals first | rfl | omega
theorem iX (tx:List UInt8) (i:Nat) (hi:i<tx.length) (hs:tx.length≤10000) (k:Int) (hk:Lx.kd (tx.getD i 0)=k) :
  NCall Tryz.prog 34 [.str tx,.int .i64 i] [] fun r _=>r = .int .i64 (Lx.wl (fun d=>decide (Lx.kd d=k)) tx i:Nat):=by
 obtain ⟨h1,h2⟩:=Lx.tw_idx (fun d=>decide (Lx.kd d=k)) (tx.drop i)
 have hle:=Lx.wl_le (fun d=>decide (Lx.kd d=k)) tx i (by omega)
 have h1':∀ j,j<Lx.wl (fun d=>decide (Lx.kd d=k)) tx i→Lx.kd (tx.getD (i+j) 0)=k:=fun j hj=>by
  have:=(h1 j hj).2
  rw [Lx.getD_drop] at this
  simpa using this
 have h2':i+Lx.wl (fun d=>decide (Lx.kd d=k)) tx i=tx.length∨(i+Lx.wl (fun d=>decide (Lx.kd d=k)) tx i<tx.length∧¬ Lx.kd (tx.getD (i+Lx.wl (fun d=>decide (Lx.kd d=k)) tx i) 0)=k):=by
  rcases h2 with h | ⟨h,h'⟩
  ·left;rw [List.length_drop] at h;unfold Lx.wl;omega
  ·right
   rw [List.length_drop] at h
   rw [Lx.getD_drop] at h'
   exact ⟨by unfold Lx.wl;omega,of_decide_eq_false h'⟩
 clear h1 h2
 generalize Lx.wl (fun d=>decide (Lx.kd d=k)) tx i=w at *
 have c0:=da (tx.getD i 0)
 rw [hk] at c0
 refine aA Tryz.func34 rfl (by decide) ?_
 repeat' first|(refine sxZ ?_;try clear hK K)|refine sxW ?_ ?_<;>intro _|(intro K hK _;conv=>whnf)
 refine aD (α:=Nat) (fun j=>j≤w) (fun j=>[.k,.k,.k,.k,.k,.set (.int .i64 j),.d,.d,.d,.d,.d,.d,.d,.d,.d,.d,.d,.d,.d,.d,.d,.d,.d,.d,.d,.d,.d,.k]) (fun j=>[]) (fun j=>w - j) 0 (Nat.zero_le _) ?_ ?_ ?_
 ·exact aC
 ·exact MemFits.eq rfl
 (intro j hj;intro K hK;(conv=>whnf);refine hK _ _ ?_;clear hK K)
 by_cases hlt:j<w
 ·have hc:=da (tx.getD (i+j) 0)
  rw [h1' j hlt,show i+j=((i:Int)+(j:Int)).toNat by omega] at hc
  repeat' first|(intro K hK;(with_reducible refine gC ?_);first|refine cP hc ?_|refine cP c0 ?_)|(refine sxO ?_;try clear hK K)|refine sxW ?_ ?_<;>intro _|refine sxV ?_ ?_|(intro K hK _;conv=>whnf)
  refine aB (j+1) hlt (by omega) ?_ (MemFits.eq rfl)
  exact aC
 ·obtain rfl:j=w:=by omega
  rcases h2' with h | ⟨h,hp⟩
  ·repeat' first|(refine sxO ?_;try clear hK K)|refine sxW ?_ ?_<;>intro _|refine sxV ?_ ?_|(intro K hK _;conv=>whnf)
   all_goals rfl
  ·have hc:=da (tx.getD (i+j) 0)
   generalize Lx.kd (tx.getD (i+j) 0)=k2 at *
   rw [show i+j=((i:Int)+(j:Int)).toNat by omega] at hc
   repeat' first|((try intro K hK);(with_reducible refine gC ?_);first|refine cP hc ?_|refine cP c0 ?_)|((first|intro A B hA hB|intro K hK|skip);first|((with_reducible refine NIf.yes ?s ?_);(case s=>simp ;done);conv=>whnf)|((with_reducible refine NIf.no ?s ?_);(case s=>simp ;done);conv=>whnf))|(refine sxO ?_;(try clear hK K);try clear hA hB A B)|refine sxW ?_ ?_<;>intro _|refine sxV ?_ ?_|(intro K hK _;conv=>whnf)
   all_goals rfl
theorem j8 (tx:List UInt8) (i:Nat) (hi:i≤tx.length) (hs:tx.length≤10000) :
  NCall Tryz.prog 32 [.str tx,.int .i64 i] [] fun r _=>r = .int .i64 (Lx.wl Lx.notNl tx i:Nat):=by
 obtain ⟨h1,h2⟩:=Lx.tw_idx Lx.notNl (tx.drop i)
 have hle:=Lx.wl_le Lx.notNl tx i hi
 have h1':∀ j,j<Lx.wl Lx.notNl tx i→(tx.getD (i+j) 0).toNat≠10:=fun j hj=>by
  have:=(h1 j hj).2
  rw [Lx.getD_drop,lm] at this
  simpa using this
 have h2':i+Lx.wl Lx.notNl tx i=tx.length∨(i+Lx.wl Lx.notNl tx i<tx.length∧(tx.getD (i+Lx.wl Lx.notNl tx i) 0).toNat=10):=by
  rcases h2 with h | ⟨h,h'⟩
  ·left;rw [List.length_drop] at h;unfold Lx.wl;omega
  ·right
   rw [List.length_drop] at h
   rw [Lx.getD_drop,lm] at h'
   exact ⟨by unfold Lx.wl;omega,by have:=of_decide_eq_false h';unfold Lx.wl;omega⟩
 clear h1 h2
 generalize Lx.wl Lx.notNl tx i=w at *
 refine aA Tryz.func32 rfl (by decide) ?_
 repeat' first|(refine sxZ ?_;try clear hK K)|refine sxW ?_ ?_<;>intro _|(intro K hK _;conv=>whnf)
 refine aD (α:=Nat) (fun j=>j≤w) (fun j=>[.k,.k,.k,.k,.k,.set (.int .i64 j),.d,.d,.d,.d,.d,.d,.d,.d,.d,.d,.d,.d,.d,.d,.d,.d,.k]) (fun j=>[]) (fun j=>w - j) 0 (Nat.zero_le _) ?_ ?_ ?_
 ·exact aC
 ·exact MemFits.eq rfl
 (intro j hj;intro K hK;(conv=>whnf);refine hK _ _ ?_;clear hK K)
 by_cases hlt:j<w
 ·have hc:=h1' j hlt
  rw [show i+j=((i:Int)+(j:Int)).toNat by omega] at hc
  repeat' first|(refine sxZ ?_;try clear hK K)|refine sxW ?_ ?_<;>intro _|(intro K hK _;conv=>whnf)
  refine aB (j+1) hlt (by omega) ?_ (MemFits.eq rfl)
  exact aC
 ·obtain rfl:j=w:=by omega
  rcases h2' with h | ⟨h,hp⟩
  ·repeat' first|(refine sxZ ?_;try clear hK K)|refine sxW ?_ ?_<;>intro _|(intro K hK _;conv=>whnf)
   all_goals rfl
  ·rw [show i+j=((i:Int)+(j:Int)).toNat by omega] at hp
   repeat' first|(refine sxZ ?_;try clear hK K)|refine sxW ?_ ?_<;>intro _|(intro K hK _;conv=>whnf)
   all_goals rfl
theorem j9 (d:List UInt8) (hd:d.length≤10000):NCall Tryz.prog 63 [.str d] [] fun r _=>r = .int .i64 (Lx.numD d):=by
 refine aA Tryz.func63 rfl (by decide) ?_
 repeat' first|(refine sxZ ?_;try clear hK K)|refine sxW ?_ ?_<;>intro _|(intro K hK _;conv=>whnf)
 refine aD (α:=Nat) (fun n=>n≤1000∧∀ k:Nat,k<n→Lib.itoa (k:Nat)≠d) (fun n=>[.k,.k,.d,.set (.int .i64 n),.d,.d,.d,.d,.d,.d,.d,.d,.d]) (fun _=>[]) (fun n=>1000 - n) 0 ⟨Nat.zero_le _,fun k hk=>by omega⟩ ?_ ?_ ?_
 ·exact aC
 ·exact MemFits.eq rfl
 (intro n ⟨hn,hne⟩;intro K hK;(conv=>whnf);refine hK _ _ ?_;clear hK K)
 by_cases hlt:n<1000
 ·have hc:=pU (n:Nat) (by omega)
  have hhit:=Lx.numD_hit hlt
  generalize heq:Lib.itoa (n:Nat)=t at *
  by_cases he:t=d
  ·subst he
   repeat' first|(intro K hK;(with_reducible refine gC ?_);refine cP hc ?_)|(refine sxZ ?_;try clear hK K)|refine sxW ?_ ?_<;>intro _|(intro K hK _;conv=>whnf)
   all_goals rw [hhit]
  ·repeat' first|(intro K hK;(with_reducible refine gC ?_);refine cP hc ?_)|(refine sxZ ?_;try clear hK K)|refine sxW ?_ ?_<;>intro _|(intro K hK _;conv=>whnf)
   refine aB (n+1) ⟨hlt,fun k hk=>?_⟩ (by omega) ?_ (MemFits.eq rfl)
   ·rcases Nat.lt_or_ge k n with h | h
    ·exact hne k h
    ·obtain rfl:k=n:=by omega
     rw [heq];exact he
   ·exact aC
 ·have hnone:=Lx.numD_none (s:=d) fun k hk=>hne k (by omega)
  repeat' first|(refine sxZ ?_;try clear hK K)|refine sxW ?_ ?_<;>intro _|(intro K hK _;conv=>whnf)
  all_goals rw [hnone]
end Go.Proofs.YtmehinfgdcmmjaaGreat
