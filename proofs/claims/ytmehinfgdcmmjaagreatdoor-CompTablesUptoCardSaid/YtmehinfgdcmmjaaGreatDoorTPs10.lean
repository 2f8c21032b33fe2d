/- A part of the proof. -/
import Derived.Test.YtmehinfgdcmmjaaGreatDoorTJ19
import Derived.Test.YtmehinfgdcmmjaaGreatDoorTJ5
namespace Go.Sx
def qx {α:Type} (ok:α→Prop) (s:α→List AV) (mm:α→List Blk) (Rp:List PanicEntry→List Blk→Prop):Post:=fun e sl m=>match e with
 | .normal=>KnowP m (∃ x,ok x∧Qq sl (s x)∧Qw m (mm x))
 | .panic ch=>Rp ch m
 | _=>False
theorem nd {α:Type} {ok:α→Prop} {s:α→List AV} {mm:α→List Blk} {Rp:List PanicEntry→List Blk→Prop} {sl:List AV} {m:List Blk} (x:α) (hx:ok x) (hs:Qq sl (s x)) (hm:Qw m (mm x)):qx ok s mm Rp .normal sl m :=
 KnowP.mk fun _=>⟨x,hx,hs,hm⟩
theorem lk {α:Type} {ok:α→Prop} {s:α→List AV} {mm:α→List Blk} {Rp:List PanicEntry→List Blk→Prop} {sl:List AV} {m:List Blk} (h:(∃ w,Qx m w)→∃ x,ok x∧Qq sl (s x)∧Qw m (mm x)):qx ok s mm Rp .normal sl m :=
 KnowP.mk h
theorem fB {P:Program} {Q:Post} {sl:List AV} {m:List Blk} {id:Nat} {ops:Array Oper} {α:Type} (ok:α→Prop) (us:α→List Up) (ms:α→List UpB) (Rp:List PanicEntry→List Blk→Prop)
  (h1:codeX P (.region id ops true) sl m (qx ok (fun x=>bq sl (us x)) (fun x=>autoM m (ms x)) Rp))
  (hp:∀ ch sl' m',Rp ch m'→Q (.panic ch) sl' m')
  (h2:∀ x,ok x→∀ K:List AV→List Blk→Prop,(∀ sl' m',Q .normal sl' m'→K sl' m')→fU sl (us x) fun sl'=>dB m (ms x) fun m'=>K sl' m'):codeX P (.region id ops true) sl m Q:=by
 simp only [codeX] at h1 ⊢
 unfold jN at h1 ⊢
 intro id w0 S a w hsim
 refine wp_mono (h1 id w0 S a w hsim) fun e a w hq=>?_
 obtain ⟨sl',m',h3,h4⟩:=hq
 cases e with
 | normal =>
  obtain ⟨x,hx,hs,hm⟩:=KnowP.get h3 ⟨w,h4.mem⟩
  exact ⟨_,_,ap _ _ (bP _ _ (h2 x hx (fun sl' m'=>Q .normal sl' m') fun _ _ h=>h)),h4.fits hs hm⟩
 | panic ch=>exact ⟨_,_,hp ch sl' m' h3,h4⟩
 | exit _=>exact h3.elim
 | goto _=>exact h3.elim
 | ret=>exact h3.elim
 | outgrown=>exact h3.elim
end Go.Sx
namespace Go.Proofs.YtmehinfgdcmmjaaGreatDoor
open Go.Sx
set_option maxRecDepth 20000
set_option linter.unusedSimpArgs false
set_option linter.unusedVariables false
set_option maxHeartbeats 4000000
theorem jV (v:Value) (l:List Lx.T) (hl:Ps.Good l):∀ (n i:Nat),l.length - i≤n→i<l.length→Ps.P27 v l 173 (Ps.step (l.map Lx.b) n i) i
 | 0,i,h0,h1=>by omega
 | n+1,i,hni,hil=>by
  intro F b hv
  refine aH.fits (K:=fun r m=>∃ p j G pu u,Ps.step (l.map Lx.b) (n+1) i = .ok p j∧i≤j∧j<l.length∧F.le G∧Po.At G p pu u∧r.den=(AV.agg (Po.cs p pu u)).den∧Qw m [hpB G,Ps.pB b v l.length j]) (Kp:=fun ch m=>∃ j x G k,Ps.step (l.map Lx.b) (n+1) i = .bad j∧l[j]?=some x∧ch=Ps.wrong x.at_∧F.le G∧Qw m [hpB G,Ps.pB b v l.length k]) ?_ (fun r m' ⟨p,j,G,pu,u,h1,h2,h3,h4,h5,h6,h7⟩=>⟨_,_,h6.symm,h7,p,j,G,pu,u,h1,h2,h3,h4,h5,rfl,rfl⟩) (fun ch m' ⟨j,x,G,k,h1,h2,h3,h4,h5⟩=>⟨_,h5,j,x,G,k,h1,h2,h3,h4,rfl⟩)
  have hn:=hl.few
  have hx:l[i]?=some l[i]:=List.getElem?_eq_getElem hil
  have hlen:(l.map Lx.b).length=l.length:=List.length_map ..
  have hih:∀ i',i+1≤i'→i'<l.length→Ps.P27 v l 173 (Ps.step (l.map Lx.b) n i') i':=fun i' h1 h2=>jV v l hl n i' (by omega) h2
  have hip:=fun h=>fy v l hl (Ps.step (l.map Lx.b) n) (i+1) h fun i' h1 h2=>l9 v l hl (Ps.step (l.map Lx.b) n) i' h2 fun i'' h3 h4=>hih i'' (by omega) h4
  have hic:=fun h=>kZ v l hl (Ps.part (l.map Lx.b) (l.map Lx.b).length) (i+1) h fun i' h1 h2=>iL v l hl (Ps.part (l.map Lx.b) (l.map Lx.b).length) i' h2 fun i'' h3 h4=>jq v l hl (l.map Lx.b).length i'' (by rw [hlen];omega) h4
  have c1:=bu F v l hv hn b hx Ps.wDrop
  have c2:=bu F v l hv hn b hx Ps.wId
  have c3:=bu F v l hv hn b hx Ps.wWhen
  have c4:=bu F v l hv hn b hx Ps.wIf
  have c5:=bu F v l hv hn b hx Ps.wOpen
  have cf:=iR F v l hv hn b (many:=5) (by decide) hx
  have hfb:=Ps.field_b hl (many:=5) hx
  have cfl:=di F v l hv hn b hx
  rw [← Ps.is_b hx] at c1 c2 c3 c4 c5
  have n1:=fun s=>hl.next hx (s:=s)
  have hspec:Ps.step (l.map Lx.b) (n+1) i=if Ps.is (l.map Lx.b) i Ps.wDrop=true then .ok (.mk 1 (.mk 2 0 0 []) 0 0 []) (i+1)
   else if Ps.is (l.map Lx.b) i Ps.wId=true then .ok (.mk 1 (.mk 1 0 0 []) 0 0 []) (i+1)
   else if Ps.is (l.map Lx.b) i Ps.wWhen=true then match Ps.cond (l.map Lx.b) (Ps.part (l.map Lx.b) (l.map Lx.b).length) (i+1) with
    | .ok c j=>.ok (.mk 1 c 0 0 []) j
    | .bad j=>.bad j
   else if Ps.is (l.map Lx.b) i Ps.wIf=true then Ps.choice (l.map Lx.b) (Ps.cond (l.map Lx.b) (Ps.part (l.map Lx.b) (l.map Lx.b).length)) (Ps.step (l.map Lx.b) n) (i+1)
   else if Ps.is (l.map Lx.b) i Ps.wOpen=true then Ps.shut (l.map Lx.b) (Ps.rows (l.map Lx.b) (Ps.step (l.map Lx.b) n) (i+1))
   else match Ps.assign (l.map Lx.b) 5 Ps.wSet i with
    | .ok (f,v) j=>.ok (.mk 2 Ps.none26 f v []) j
    | .bad j=>.bad j:=by
   rw [Ps.step]
   split
   ·rfl
   split
   ·rfl
   split
   ·cases Ps.cond (l.map Lx.b) (Ps.part (l.map Lx.b) (l.map Lx.b).length) (i+1)<;>rfl
   split
   ·rfl
   split
   ·rfl
   ·rcases Ps.assign (l.map Lx.b) 5 Ps.wSet i with ⟨⟨f,v⟩,j⟩ | j<;>rfl
  have m1:=n1 Ps.wDrop
  have m2:=n1 Ps.wId
  have m3:=n1 Ps.wWhen
  have m4:=n1 Ps.wIf
  have m5:=n1 Ps.wOpen
  generalize Ps.step (l.map Lx.b) (n+1) i=res at *
  generalize Ps.is (l.map Lx.b) i Ps.wDrop=q1 at *
  generalize Ps.is (l.map Lx.b) i Ps.wId=q2 at *
  generalize Ps.is (l.map Lx.b) i Ps.wWhen=q3 at *
  generalize Ps.is (l.map Lx.b) i Ps.wIf=q4 at *
  generalize Ps.is (l.map Lx.b) i Ps.wOpen=q5 at *
  unfold Ps.pB at c1 c2 c3 c4 c5 cf cfl ⊢
  unfold Ps.wDrop at c1
  unfold Ps.wId at c2
  unfold Ps.wWhen at c3
  unfold Ps.wIf at c4
  unfold Ps.wOpen at c5
  have cm:=fun G (h:F.le G) j (hj:j<l.length) s=>kA G v l (Ps.Toks.mono h hv) hn b (List.getElem?_eq_getElem hj) s
  have isj:=fun j (hj:j<l.length) s=>Ps.is_b (List.getElem?_eq_getElem hj) s
  have nxj:=fun j (hj:j<l.length) s=>hl.next (List.getElem?_eq_getElem hj) (s:=s)
  unfold Ps.pB at cm
  refine ax Tryz.func173 rfl (by decide) ?_
  cases q1 with
  | true =>
   rw [if_pos rfl] at c1 hspec
   repeat' first|(intro K Kp hK hP;(with_reducible refine gCX ?_);(refine aH.of ?_;first|refine cS [0,1] c1 ?_))|(refine ah ?_;(try clear hP hK Kp K);try clear hK K)|refine sxW ?_ ?_<;>intro _|(intro K Kp hK hP _;conv=>whnf)|(intro K hK _;conv=>whnf)
   all_goals exact ⟨_,i+1,F,.slice none 0 0,.slice none 0 0,hspec,by omega,m1 rfl,F.le_refl,⟨aI.nil,aI.nil⟩,rfl,Qw.pre 2 rfl⟩
  | false =>
  rw [if_neg (by decide)] at c1 hspec
  cases q2 with
  | true =>
   rw [if_pos rfl] at c2 hspec
   repeat' first|(intro K Kp hK hP;(with_reducible refine gCX ?_);(refine aH.of ?_;first|refine cS [0,1] c1 ?_|refine cS [0,1] c2 ?_))|(refine ah ?_;(try clear hP hK Kp K);try clear hK K)|refine sxW ?_ ?_<;>intro _|(intro K Kp hK hP _;conv=>whnf)|(intro K hK _;conv=>whnf)
   all_goals exact ⟨_,i+1,F,.slice none 0 0,.slice none 0 0,hspec,by omega,m2 rfl,F.le_refl,⟨aI.nil,aI.nil⟩,rfl,Qw.pre 2 rfl⟩
  | false =>
  rw [if_neg (by decide)] at c2 hspec
  cases q3 with
  | true =>
   rw [if_pos rfl] at c3 hspec
   have cp:=hic (m3 rfl) F b hv
   generalize Ps.cond (l.map Lx.b) (Ps.part (l.map Lx.b) (l.map Lx.b).length) (i+1)=qq at *
   unfold Ps.pB at cp
   repeat' first|(intro K Kp hK hP;(with_reducible refine gCX ?_);first|(refine cX [0,1] cp rfl rfl ?_ ?_;((rintro _ _ ⟨p,j,G,u,h1,h2,h3,h4,h5,rfl,rfl⟩)<;>refine ⟨rfl,_,rfl,?_⟩);rotate_right;((rintro _ _ ⟨j,x,G,k,h1,h2,rfl,h4,rfl⟩)<;>refine ⟨rfl,?_⟩);all_goals (conv=>whnf))|(refine aH.of ?_;first|refine cS [0,1] c1 ?_|refine cS [0,1] c2 ?_|refine cS [0,1] c3 ?_))|(refine ah ?_;(try clear hP hK Kp K);try clear hK K)|refine sxW ?_ ?_<;>intro _|(intro K Kp hK hP _;conv=>whnf)|(intro K hK _;conv=>whnf)
   ·refine ⟨j,x,G,k,?_,h2,rfl,h4,Qw.pre 2 rfl⟩
    rw [hspec,h1]
   ·refine ⟨.mk 1 p 0 0 [],j,G,u,.slice none 0 0,by rw [hspec,h1],by omega,h3,h4,⟨h5,aI.nil⟩,rfl,Qw.pre 2 rfl⟩
  | false =>
  rw [if_neg (by decide)] at c3 hspec
  cases q4 with
  | true =>
   rw [if_pos rfl] at c4 hspec
   have cp:=hic (m4 rfl) F b hv
   generalize hcnd:Ps.cond (l.map Lx.b) (Ps.part (l.map Lx.b) (l.map Lx.b).length)=cnd at *
   generalize hqq:cnd (i+1)=qq at *
   have hst:=fun G (h:F.le G) j (h1:i+1≤j) (h2:j<l.length)=>hih j h1 h2 G b (Ps.Toks.mono h hv)
   generalize hstp:Ps.step (l.map Lx.b) n=stp at *
   unfold Ps.pB at cp
   (repeat' (first|(with_reducible first|(refine hK _ _ ?_;clear hP hK Kp K)|(refine hP _ _ ?_;clear hP hK Kp K))|(with_reducible first|(refine hK _ _ ?_;clear hK K)|(refine hA ?_;clear hA hB A B)|(refine hB ?_;clear hA hB A B)|(refine hK _ ?_;clear hK K))|((first|((with_reducible refine gCX ?_);(first|(refine cX [0,1] (cp) rfl rfl ?_ ?_;((rintro _ _ ⟨c,j,G,u,h1,h2,h3,h4,h5,rfl,rfl⟩)<;>refine ⟨rfl,_,rfl,?_⟩);rotate_right;((rintro _ _ ⟨j,x,G,k,h1,h2,rfl,h4,rfl⟩)<;>refine ⟨rfl,?_⟩))|(refine cX [0,1] (cm G h4 j h3 [116,104,101,110]) rfl rfl ?_ ?_;((rintro _ _ ⟨k1,rfl,rfl⟩)<;>refine ⟨rfl,_,rfl,?_⟩);rotate_right;((rintro _ _ ⟨k1,rfl,rfl⟩)<;>refine ⟨rfl,?_⟩))|(refine aH.of ?_;(first|(refine cE [0,1] (c1) rfl rfl ?_)|(refine cE [0,1] (c2) rfl rfl ?_)|(refine cE [0,1] (c3) rfl rfl ?_)|(refine cE [0,1] (c4) rfl rfl ?_)))))|((with_reducible refine gC ?_);(first|(refine cE [0,1] (c1) rfl rfl ?_)|(refine cE [0,1] (c2) rfl rfl ?_)|(refine cE [0,1] (c3) rfl rfl ?_)|(refine cE [0,1] (c4) rfl rfl ?_))))<;>(conv=>whnf))|(refine mZ ?_)|((with_reducible refine gXX ?_);fail)|(refine q7 ?_)|((with_reducible refine gX ?_);(refine z34 (by kernel_rfl) (by kernel_rfl) ?_))|(refine q9 ?_;intro K hK;conv=>whnf)|(refine q8 ?_;intro K Kp hK hP;conv=>whnf)|(refine rA ?_;intro A B hA hB;conv=>whnf)|((with_reducible first|refine NIf.dec (fun _=>?_) (fun _=>?_)|refine NIf.both (fun _=>?_) (fun _=>?_))<;>(conv=>whnf))|((intro _;skip)<;>(conv=>whnf))))
   ·refine ⟨j,x,G,k,?_,h2,rfl,h4,Qw.pre 2 rfl⟩
    rw [hspec]
    unfold Ps.choice
    rw [hqq,h1]
   ·rw [← isj j h3] at k1
    refine ⟨j,_,G,j,?_,List.getElem?_eq_getElem h3,rfl,h4,Qw.pre 2 rfl⟩
    rw [hspec]
    unfold Ps.choice
    rw [hqq,h1]
    exact if_neg (by rw [show Ps.is (l.map Lx.b) j Ps.wThen=false from k1];decide)
   rename_i b1 b2
   rw [← isj j h3] at k1
   have hj1:=nxj j h3 _ k1
   have hs1:res=match stp (j+1) with
    | .bad j=>.bad j
    | .ok a j=>if Ps.is (l.map Lx.b) j Ps.wElse=true then match stp (j+1) with
      | .bad j=>.bad j
      | .ok b j=>.ok (.mk 5 c 0 0 [a,b]) j
     else .bad j:=by
    rw [hspec]
    unfold Ps.choice
    rw [hqq,h1]
    dsimp only
    rw [if_pos (show Ps.is (l.map Lx.b) j Ps.wThen=true from k1)]
    cases stp (j+1) with
    | bad=>rfl
    | ok a j' =>
     dsimp only
     cases Ps.is (l.map Lx.b) j' Ps.wElse with
     | false=>rfl
     | true=>cases stp (j'+1)<;>rfl
   have cs1:=hst G h4 (j+1) (by omega) hj1
   generalize hq1:stp (j+1)=sq at *
   unfold Ps.pB at cs1
   refine fB (α:=Po.T × Nat × Heap × Value × Value × Value) (fun (a,ja,Ga,pa,ua,w)=>sq = .ok a ja∧j+1≤ja∧ja<l.length∧G.le Ga∧Po.At Ga a pa ua) (fun (a,ja,Ga,pa,ua,w)=>List.replicate 67 .k)
    (fun (a,ja,Ga,pa,ua,w)=>[.set (hpB Ga),.set (Ps.pB b v l.length ja),.k,.set ⟨⟨b2,0,none⟩,[.int .i64 5,.int .i64 c.k,.int .i64 c.f,.int .i64 c.v,.hs u c.l.length,.int .i64 0,.int .i64 0,.sl 4 w 1],.var 42⟩,.set ⟨addrOf w,Po.psC [⟨a,pa,ua⟩],.row w 42 8 1⟩])
    (fun ch m=>∃ ja xa Ga ka,sq = .bad ja∧l[ja]?=some xa∧ch=Ps.wrong xa.at_∧G.le Ga∧Qw m [hpB Ga,Ps.pB b v l.length ka]) ?_ (fun ch sl' m' hq=>?_) ?_
   ·repeat' first|(intro K Kp hK hP;(with_reducible refine gCX ?_);(refine cX [0,1] cs1 rfl rfl ?_ ?_;((rintro _ _ ⟨a,ja,Ga,pa,ua,ha1,ha2,ha3,ha4,ha5,rfl,rfl⟩)<;>refine ⟨rfl,_,rfl,?_⟩);rotate_right;((rintro _ _ ⟨ja,xa,Ga,ka,ha1,ha2,rfl,ha4,rfl⟩)<;>refine ⟨rfl,?_⟩);all_goals (conv=>whnf)))|(refine qh ?_;(try clear hP hK Kp K);try clear hK K)|refine sxW ?_ ?_<;>intro _|refine qg ?_ ?_|(intro K Kp hK hP _;conv=>whnf)|(intro K hK _;conv=>whnf)
    all_goals try exact ⟨ja,xa,Ga,ka,ha1,ha2,rfl,ha4,Qw.pre 2 rfl⟩
    all_goals rename_i b3 w2
    all_goals refine nd (a,ja,Ga,pa,ua,w2) ⟨ha1,ha2,ha3,ha4,ha5⟩ ?_ (by refine (Qw.pick (m':=[hpB Ga,Ps.pB b v l.length ja,_,_,_]) [0,1,2,3,5] (by decide) rfl).trans ?_;exact Qw.congr rfl)
    all_goals exact aD
   ·obtain ⟨ja,xa,Ga,ka,g1,g2,rfl,g4,g5⟩:=hq
    repeat' first|(refine ah ?_;(try clear hP hK Kp K);try clear hK K)|refine sxW ?_ ?_<;>intro _|(intro K Kp hK hP _;conv=>whnf)|(intro K hK _;conv=>whnf)
    all_goals exact ⟨ja,xa,Ga,ka,by rw [hs1,g1],g2,rfl,h4.trans g4,g5⟩
   (intro ⟨a,ja,Ga,pa,ua,w⟩ ⟨ha1,ha2,ha3,ha4,ha5⟩;intro K hK;(conv=>whnf);refine hK _ _ ?_;clear hK K)
   try dsimp only at ha1 ha2 ha3 ha4 ha5
   rw [ha1] at hs1
   dsimp only at hs1
   have hGa:=h4.trans ha4
   (repeat' (first|(with_reducible first|(refine hK _ _ ?_;clear hP hK Kp K)|(refine hP _ _ ?_;clear hP hK Kp K))|(with_reducible first|(refine hK _ _ ?_;clear hK K)|(refine hA ?_;clear hA hB A B)|(refine hB ?_;clear hA hB A B)|(refine hK _ ?_;clear hK K))|((first|((with_reducible refine gCX ?_);(refine cX [0,1] (cm Ga hGa ja ha3 [101,108,115,101]) rfl rfl ?_ ?_;((rintro _ _ ⟨k2,rfl,rfl⟩)<;>refine ⟨rfl,_,rfl,?_⟩);rotate_right;((rintro _ _ ⟨k2,rfl,rfl⟩)<;>refine ⟨rfl,?_⟩))))<;>(conv=>whnf))|(refine mZ ?_)|((with_reducible refine gXX ?_);fail)|(refine q7 ?_)|((with_reducible refine gX ?_);(refine z34 (by kernel_rfl) (by kernel_rfl) ?_))|(refine q9 ?_;intro K hK;conv=>whnf)|(refine q8 ?_;intro K Kp hK hP;conv=>whnf)|(refine rA ?_;intro A B hA hB;conv=>whnf)|((with_reducible first|refine NIf.dec (fun _=>?_) (fun _=>?_)|refine NIf.both (fun _=>?_) (fun _=>?_))<;>(conv=>whnf))|((intro _;skip)<;>(conv=>whnf))))
   ·rw [← isj ja ha3] at k2
    refine ⟨ja,_,Ga,ja,?_,List.getElem?_eq_getElem ha3,rfl,hGa,Qw.pre 2 rfl⟩
    rw [hs1,if_neg (by rw [show Ps.is (l.map Lx.b) ja Ps.wElse=false from k2];decide)]
   rw [← isj ja ha3] at k2
   rw [if_pos (show Ps.is (l.map Lx.b) ja Ps.wElse=true from k2)] at hs1
   have hja:=nxj ja ha3 _ k2
   have cs2:=hst Ga hGa (ja+1) (by omega) hja
   generalize hq2:stp (ja+1)=sq2 at *
   unfold Ps.pB at cs2
   refine fB (α:=Po.T × Nat × Heap × Value × Value × Value) (fun (d,jd,Gd,pd,ud,w3)=>sq2 = .ok d jd∧ja+1≤jd∧jd<l.length∧Ga.le Gd∧Po.At Gd d pd ud∧SlOk w3 2) (fun (d,jd,Gd,pd,ud,w3)=>List.replicate 67 .k)
    (fun (d,jd,Gd,pd,ud,w3)=>[.set (hpB Gd),.set (Ps.pB b v l.length jd),.k,.set ⟨⟨b2,0,none⟩,[.int .i64 5,.int .i64 c.k,.int .i64 c.f,.int .i64 c.v,.hs u c.l.length,.int .i64 0,.int .i64 0,.sl 4 w3 2],.var 42⟩,.set ⟨addrOf w3,Po.psC [⟨a,pa,ua⟩,⟨d,pd,ud⟩],.row w3 42 8 2⟩])
    (fun ch m=>∃ ja xa Ge ka,sq2 = .bad ja∧l[ja]?=some xa∧ch=Ps.wrong xa.at_∧Ga.le Ge∧Qw m [hpB Ge,Ps.pB b v l.length ka]) ?_ (fun ch sl' m' hq=>?_) ?_
   ·repeat' first|(intro K Kp hK hP;(with_reducible refine gCX ?_);(refine cX [0,1] cs2 rfl rfl ?_ ?_;((rintro _ _ ⟨d,jd,Gd,pd,ud,hd1,hd2,hd3,hd4,hd5,rfl,rfl⟩)<;>refine ⟨rfl,_,rfl,?_⟩);rotate_right;((rintro _ _ ⟨jd,xd,Gd,kd,hd1,hd2,rfl,hd4,rfl⟩)<;>refine ⟨rfl,?_⟩);all_goals (conv=>whnf)))|(refine qh ?_;(try clear hP hK Kp K);try clear hK K)|refine sxW ?_ ?_<;>intro _|refine qg ?_ ?_|(intro K Kp hK hP _;conv=>whnf)|(intro K hK _;conv=>whnf)
    all_goals try exact ⟨jd,xd,Gd,kd,hd1,hd2,rfl,hd4,Qw.pre 2 rfl⟩
    all_goals rename_i b3 w4
    all_goals refine lk fun ⟨W0,hW0⟩=>⟨(d,jd,Gd,pd,ud,w4),⟨hd1,hd2,hd3,hd4,hd5,(hW0.row (.tail _ (.tail _ (.tail _ (.tail _ (.head _)))))).1⟩,?_,by refine (Qw.pick (m':=[hpB Gd,Ps.pB b v l.length jd,_,_,_]) [0,1,2,3,4] (by decide) rfl).trans ?_;exact Qw.congr rfl⟩
    all_goals exact aD
   ·obtain ⟨jd,xd,Gd,kd,g1,g2,rfl,g4,g5⟩:=hq
    repeat' first|(refine ah ?_;(try clear hP hK Kp K);try clear hK K)|refine sxW ?_ ?_<;>intro _|(intro K Kp hK hP _;conv=>whnf)|(intro K hK _;conv=>whnf)
    all_goals exact ⟨jd,xd,Gd,kd,by rw [hs1,g1],g2,rfl,hGa.trans g4,g5⟩
   (intro ⟨d,jd,Gd,pd,ud,w3⟩ ⟨hd1,hd2,hd3,hd4,hd5,hd6⟩;intro K hK;(conv=>whnf);refine hK _ _ ?_;clear hK K)
   try dsimp only at hd1 hd2 hd3 hd4 hd5 hd6
   rw [hd1] at hs1
   dsimp only at hs1
   have hGd:=hGa.trans hd4
   have hcs:denL (Po.psC [(⟨a,pa,ua⟩:Po.L),⟨d,pd,ud⟩])=[(⟨a,pa,ua⟩:Po.L),⟨d,pd,ud⟩].flatMap Po.psV:=Po.psC_den _
   have hrow:=aM (F:=Gd) (sz:=8) (enc:=Po.psV) (l:=[(⟨a,pa,ua⟩:Po.L),⟨d,pd,ud⟩]) hd6 hcs (fun x _=>rfl)
   have hat:Po.At (addF Gd (addrOf w3) (denL (Po.psC [(⟨a,pa,ua⟩:Po.L),⟨d,pd,ud⟩]))) (.mk 5 c 0 0 [a,d]) u w3:=⟨Pd.Row.mono ((ha4.trans hd4).trans addF.old) h5,Po.row_of hrow fun y hy=>by
    rcases List.mem_cons.1 hy with rfl | hy
    ·exact Po.At.mono (hd4.trans addF.old) ha5
    ·rw [List.mem_singleton.1 hy];exact Po.At.mono addF.old hd5⟩
   repeat' first|(refine ah ?_;(try clear hP hK Kp K);try clear hK K)|refine sxW ?_ ?_<;>intro _|(intro K Kp hK hP _;conv=>whnf)|(intro K hK _;conv=>whnf)
   all_goals refine ⟨_,jd,_,u,w3,hs1,by omega,hd3,hGd.trans addF.old,hat,rfl,(Qw.pick (m':=[hpB Gd,⟨addrOf w3,Po.psC [(⟨a,pa,ua⟩:Po.L),⟨d,pd,ud⟩],.row w3 42 8 2⟩,Ps.pB b v l.length jd]) [0,4,1] (by decide) rfl).trans (Qw.freeze (m:=[Ps.pB b v l.length jd]))⟩
  | false =>
  rw [if_neg (by decide)] at c4 hspec
  cases q5 with
  | true =>
   rw [if_pos rfl] at c5 hspec
   have cp:=hip (m5 rfl) F b hv
   generalize Ps.rows (l.map Lx.b) (Ps.step (l.map Lx.b) n) (i+1)=qq at *
   unfold Ps.pB at cp
   repeat' first|(intro K Kp hK hP;(with_reducible refine gCX ?_);first|(refine cX [0,1] cp rfl rfl ?_ ?_;((rintro _ _ ⟨p,j,G,pu,u,h1,h2,h3,h4,h5,rfl,rfl⟩)<;>refine ⟨rfl,_,rfl,?_⟩);rotate_right;((rintro _ _ ⟨j,x,G,k,h1,h2,rfl,h4,rfl⟩)<;>refine ⟨rfl,?_⟩);all_goals (conv=>whnf))|(refine cX [0,1] (cm G h4 j h3 [41]) rfl rfl ?_ ?_;((rintro _ _ ⟨k1,rfl,rfl⟩)<;>refine ⟨rfl,_,rfl,?_⟩);rotate_right;((rintro _ _ ⟨k1,rfl,rfl⟩)<;>refine ⟨rfl,?_⟩);all_goals (conv=>whnf))|(refine aH.of ?_;first|refine cS [0,1] c1 ?_|refine cS [0,1] c2 ?_|refine cS [0,1] c3 ?_|refine cS [0,1] c4 ?_|refine cS [0,1] c5 ?_))|(refine ah ?_;(try clear hP hK Kp K);try clear hK K)|refine sxW ?_ ?_<;>intro _|(intro K Kp hK hP _;conv=>whnf)|(intro K hK _;conv=>whnf)
   ·refine ⟨j,x,G,k,?_,h2,rfl,h4,Qw.pre 2 rfl⟩
    rw [hspec,h1]
    rfl
   ·refine ⟨j,_,G,j,?_,List.getElem?_eq_getElem h3,rfl,h4,Qw.pre 2 rfl⟩
    rw [← isj j h3] at k1
    rw [hspec,h1]
    exact if_neg (by rw [show Ps.is (l.map Lx.b) j Ps.wShut=false from k1];decide)
   ·rw [← isj j h3] at k1
    refine ⟨p,j+1,G,pu,u,?_,by omega,nxj j h3 _ k1,h4,h5,rfl,Qw.pre 2 rfl⟩
    rw [hspec,h1]
    exact if_pos k1
  | false =>
   rw [if_neg (by decide)] at c5 hspec
   have cnum:=fun j (hj:j<l.length)=>gA F v l hv hn b (List.getElem?_eq_getElem hj)
   have tkj:=fun j (hj:j<l.length)=>Ps.tk_b (List.getElem?_eq_getElem hj)
   unfold Ps.pB at cnum
   rcases hfb with ⟨hq,hf⟩ | ⟨f,hq,hf,h1⟩
   ·rw [hq] at cf
    rw [Ps.assign_none hf] at hspec
    repeat' first|(intro K Kp hK hP;(with_reducible refine gCX ?_);first|(refine cX [0,1] cfl rfl rfl ?_ ?_;((rintro _ _ ⟨⟩)<;>refine ⟨rfl,_,rfl,?_⟩);rotate_right;((rintro _ _ ⟨rfl,rfl⟩)<;>refine ⟨rfl,?_⟩);all_goals (conv=>whnf))|(refine aH.of ?_;first|refine cS [0,1] c1 ?_|refine cS [0,1] c2 ?_|refine cS [0,1] c3 ?_|refine cS [0,1] c4 ?_|refine cS [0,1] c5 ?_|refine cS [0,1] cf ?_))|(refine ah ?_;(try clear hP hK Kp K);try clear hK K)|refine sxW ?_ ?_<;>intro _|(intro K Kp hK hP _;conv=>whnf)|(intro K hK _;conv=>whnf)
    all_goals exact ⟨i,_,F,i,hspec,hx,rfl,F.le_refl,Qw.pre 2 rfl⟩
   ·rw [hq,if_pos (by omega)] at cf
    rw [Ps.assign_some hf] at hspec
    have hf6:f≤6:=by
     have:=(List.findIdx?_eq_some_iff_getElem.1 (show (Ps.words.take 5).findIdx? _=some f from by
      unfold Ps.field at hf
      split at hf
      ·exact hf
      ·cases hf)).1
     rw [List.length_take] at this
     omega
    have c6:=cm F F.le_refl (i+1) h1 [58,61]
    have c7:=fun h=>cnum (i+2) h
    repeat' first|(intro K Kp hK hP;(with_reducible refine gCX ?_);first|(refine cX [0,1] c6 rfl rfl ?_ ?_;((rintro _ _ ⟨k1,rfl,rfl⟩)<;>refine ⟨rfl,_,rfl,?_⟩);rotate_right;((rintro _ _ ⟨k1,rfl,rfl⟩)<;>refine ⟨rfl,?_⟩);all_goals (conv=>whnf))|(refine cX [0,1] (c7 (nxj (i+1) h1 [58,61] ((isj (i+1) h1 [58,61]).trans k1))) rfl rfl ?_ ?_;((rintro _ _ ⟨k2,rfl,rfl⟩)<;>refine ⟨rfl,_,rfl,?_⟩);rotate_right;((rintro _ _ ⟨k2,rfl,rfl⟩)<;>refine ⟨rfl,?_⟩);all_goals (conv=>whnf))|(refine aH.of ?_;first|refine cS [0,1] c1 ?_|refine cS [0,1] c2 ?_|refine cS [0,1] c3 ?_|refine cS [0,1] c4 ?_|refine cS [0,1] c5 ?_|refine cS [0,1] cf ?_))|(refine ah ?_;(try clear hP hK Kp K);try clear hK K)|refine sxW ?_ ?_<;>intro _|(intro K Kp hK hP _;conv=>whnf)|(intro K hK _;conv=>whnf)
    all_goals first | (exfalso;omega) | skip
    ·refine ⟨i+1,_,F,i+1,?_,List.getElem?_eq_getElem h1,rfl,F.le_refl,Qw.pre 2 rfl⟩
     rw [← isj (i+1) h1] at k1
     rw [hspec,if_neg (by rw [show Ps.is (l.map Lx.b) (i+1) Ps.wSet=false from k1];decide)]
    ·have h2:=nxj (i+1) h1 [58,61] ((isj (i+1) h1 [58,61]).trans k1)
     refine ⟨i+2,_,F,i+2,?_,List.getElem?_eq_getElem h2,rfl,F.le_refl,Qw.pre 2 rfl⟩
     rw [← isj (i+1) h1] at k1
     rw [hspec,if_pos (show Ps.is (l.map Lx.b) (i+1) Ps.wSet=true from k1),tkj (i+2) h2,if_neg (show ¬(Lx.b (l[i+2]'h2)).k=2 from k2)]
    ·have h2:=nxj (i+1) h1 [58,61] ((isj (i+1) h1 [58,61]).trans k1)
     refine ⟨.mk 2 Ps.none26 f (l[i+2]'h2).n [],i+3,F,.slice none 0 0,.slice none 0 0,?_,by omega,hl.end_ (i+2) _ (List.getElem?_eq_getElem h2) (by rw [k2];decide),F.le_refl,⟨aI.nil,aI.nil⟩,rfl,Qw.pre 2 rfl⟩
     rw [← isj (i+1) h1] at k1
     rw [hspec,if_pos (show Ps.is (l.map Lx.b) (i+1) Ps.wSet=true from k1),tkj (i+2) h2,if_pos (show (Lx.b (l[i+2]'h2)).k=2 from k2)]
     rfl
end Go.Proofs.YtmehinfgdcmmjaaGreatDoor
