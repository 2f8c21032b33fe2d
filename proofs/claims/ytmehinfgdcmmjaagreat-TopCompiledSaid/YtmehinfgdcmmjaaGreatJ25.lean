import Derived.Test.YtmehinfgdcmmjaaGreatJ24
import Derived.Test.YtmehinfgdcmmjaaGreatJ19
import Derived.Test.YtmehinfgdcmmjaaGreatJ8
import Derived.Test.YtmehinfgdcmmjaaGreatJ17
namespace Go.Proofs.YtmehinfgdcmmjaaGreat
open Go.Sx
set_option maxRecDepth 20000
set_option linter.unusedSimpArgs false
set_option linter.unusedVariables false
set_option maxHeartbeats 4000000
namespace Ps
theorem field_b {l:List Lx.T} (hl:Good l) {i many:Nat} {x:Lx.T} (hx:l[i]?=some x):((if x.k=1 then idx (words.take many) x.s else -1) = -1∧field (l.map Lx.b) i many=none)∨∃ f:Nat,(if x.k=1 then idx (words.take many) x.s else -1)=f∧field (l.map Lx.b) i many=some f∧i+1<l.length:=by
 unfold field idx
 rw [tk_b hx]
 show (_∧(if x.k=1 then (words.take many).findIdx? (fun w=>decide (w=x.s)) else none)=none)∨∃ f:Nat,_∧(if x.k=1 then (words.take many).findIdx? (fun w=>decide (w=x.s)) else none)=some f∧_
 by_cases h:x.k=1
 ·rw [if_pos h,if_pos h]
  cases (words.take many).findIdx? (fun w=>decide (w=x.s)) with
  | none=>exact .inl ⟨rfl,rfl⟩
  | some f=>exact .inr ⟨f,rfl,rfl,hl.end_ i x hx (by omega)⟩
 ·rw [if_neg h,if_neg h]
  exact .inl ⟨rfl,rfl⟩
theorem assign_none {l:List Lx.T} {i many:Nat} {sign:List UInt8} (h:field (l.map Lx.b) i many=none):assign (l.map Lx.b) many sign i = .bad i:=by
 unfold assign
 rw [h]
theorem assign_some {l:List Lx.T} {i many f:Nat} {sign:List UInt8} (h:field (l.map Lx.b) i many=some f):assign (l.map Lx.b) many sign i=if is (l.map Lx.b) (i+1) sign=true then (if (tk (l.map Lx.b) (i+2)).k=2 then .ok ((f:Int),(tk (l.map Lx.b) (i+2)).n) (i+3) else .bad (i+2)) else .bad (i+1):=by
 unfold assign
 rw [h]
end Ps
theorem kG (v:Value) (l:List Lx.T) (hl:Ps.Good l):∀ (n i:Nat),l.length - i≤n→i<l.length→Ps.P26 v l 186 (Ps.part (l.map Lx.b) n i) i
 | 0,i,h0,h1=>by omega
 | n+1,i,hni,hil=>by
  intro F b hv
  refine aG.fits (K:=fun r m=>∃ p j G u,Ps.part (l.map Lx.b) (n+1) i = .ok p j∧i≤j∧j<l.length∧F.le G∧Pd.Row G u p.l∧r.den=(AV.agg (Pd.cs p u)).den∧MemFits m [hpB G,Ps.pB b v l.length j]) (Kp:=fun ch m=>∃ j x G k,Ps.part (l.map Lx.b) (n+1) i = .bad j∧l[j]?=some x∧ch=Ps.wrong x.at_∧F.le G∧MemFits m [hpB G,Ps.pB b v l.length k]) ?_ (fun r m' ⟨p,j,G,u,h1,h2,h3,h4,h5,h6,h7⟩=>⟨_,_,h6.symm,h7,p,j,G,u,h1,h2,h3,h4,h5,rfl,rfl⟩) (fun ch m' ⟨j,x,G,k,h1,h2,h3,h4,h5⟩=>⟨_,h5,j,x,G,k,h1,h2,h3,h4,rfl⟩)
  have hn:=hl.few
  have hx:l[i]?=some l[i]:=List.getElem?_eq_getElem hil
  have hih:∀ i',i+1≤i'→i'<l.length→Ps.P26 v l 186 (Ps.part (l.map Lx.b) n i') i':=fun i' h1 h2=>kG v l hl n i' (by omega) h2
  have hic:=fun h=>kw v l hl (Ps.part (l.map Lx.b) n) (i+1) h fun i' h1 h2=>iq v l hl (Ps.part (l.map Lx.b) n) i' h2 fun i'' h3 h4=>hih i'' (by omega) h4
  have c1:=cU F v l hv hn b hx Ps.wTrue
  have c2:=cU F v l hv hn b hx Ps.wFalse
  have c3:=cU F v l hv hn b hx Ps.wNot
  have c4:=cU F v l hv hn b hx Ps.wOpen
  have cf:=iw F v l hv hn b (many:=6) (by decide) hx
  have hfb:=Ps.field_b hl (many:=6) hx
  have cfl:=eK F v l hv hn b hx
  rw [← Ps.is_b hx] at c1 c2 c3 c4
  have n1:=fun s=>hl.next hx (s:=s)
  have hspec:Ps.part (l.map Lx.b) (n+1) i=if Ps.is (l.map Lx.b) i Ps.wTrue=true then .ok (.mk 1 0 0 []) (i+1)
   else if Ps.is (l.map Lx.b) i Ps.wFalse=true then .ok (.mk 2 0 0 []) (i+1)
   else if Ps.is (l.map Lx.b) i Ps.wNot=true then match Ps.part (l.map Lx.b) n (i+1) with
    | .ok x j=>.ok (.mk 4 0 0 [x]) j
    | .bad j=>.bad j
   else if Ps.is (l.map Lx.b) i Ps.wOpen=true then Ps.shut (l.map Lx.b) (Ps.cond (l.map Lx.b) (Ps.part (l.map Lx.b) n) (i+1))
   else match Ps.assign (l.map Lx.b) 6 Ps.wEq i with
    | .ok (f,v) j=>.ok (.mk 3 f v []) j
    | .bad j=>.bad j:=by
   rw [Ps.part]
   split
   ·rfl
   split
   ·rfl
   split
   ·cases Ps.part (l.map Lx.b) n (i+1)<;>rfl
   split
   ·rfl
   ·rcases Ps.assign (l.map Lx.b) 6 Ps.wEq i with ⟨⟨f,v⟩,j⟩ | j<;>rfl
  have m1:=n1 Ps.wTrue
  have m2:=n1 Ps.wFalse
  have m3:=n1 Ps.wNot
  have m4:=n1 Ps.wOpen
  generalize Ps.part (l.map Lx.b) (n+1) i=res at *
  generalize Ps.is (l.map Lx.b) i Ps.wTrue=q1 at *
  generalize Ps.is (l.map Lx.b) i Ps.wFalse=q2 at *
  generalize Ps.is (l.map Lx.b) i Ps.wNot=q3 at *
  generalize Ps.is (l.map Lx.b) i Ps.wOpen=q4 at *
  unfold Ps.pB at c1 c2 c3 c4 cf cfl ⊢
  unfold Ps.wTrue at c1
  unfold Ps.wFalse at c2
  unfold Ps.wNot at c3
  unfold Ps.wOpen at c4
  refine az Tryz.func186 rfl (by decide) ?_
  cases q1 with
  | true =>
   rw [if_pos rfl] at c1 hspec
   repeat' first|(intro K Kp hK hP;(with_reducible refine gCX ?_);(refine aG.of ?_;first|refine cS [0,1] c1 ?_))|(refine ai ?_;(try clear hP hK Kp K);try clear hK K)|refine sxW ?_ ?_<;>intro _|(intro K Kp hK hP _;conv=>whnf)|(intro K hK _;conv=>whnf)
   all_goals exact ⟨_,i+1,F,.slice none 0 0,hspec,by omega,m1 rfl,F.le_refl,aH.nil,rfl,MemFits.pre 2 rfl⟩
  | false =>
  rw [if_neg (by decide)] at c1 hspec
  cases q2 with
  | true =>
   rw [if_pos rfl] at c2 hspec
   repeat' first|(intro K Kp hK hP;(with_reducible refine gCX ?_);(refine aG.of ?_;first|refine cS [0,1] c1 ?_|refine cS [0,1] c2 ?_))|(refine ai ?_;(try clear hP hK Kp K);try clear hK K)|refine sxW ?_ ?_<;>intro _|(intro K Kp hK hP _;conv=>whnf)|(intro K hK _;conv=>whnf)
   all_goals exact ⟨_,i+1,F,.slice none 0 0,hspec,by omega,m2 rfl,F.le_refl,aH.nil,rfl,MemFits.pre 2 rfl⟩
  | false =>
  rw [if_neg (by decide)] at c2 hspec
  cases q3 with
  | true =>
   rw [if_pos rfl] at c3 hspec
   have cp:=hih (i+1) (Nat.le_refl _) (m3 rfl) F b hv
   generalize Ps.part (l.map Lx.b) n (i+1)=qq at *
   unfold Ps.pB at cp
   repeat' first|(intro K Kp hK hP;(with_reducible refine gCX ?_);first|(refine cX [0,1] cp rfl rfl ?_ ?_;((rintro _ _ ⟨p,j,G,u,h1,h2,h3,h4,h5,rfl,rfl⟩)<;>refine ⟨rfl,_,rfl,?_⟩);rotate_right;((rintro _ _ ⟨j,x,G,k,h1,h2,rfl,h4,rfl⟩)<;>refine ⟨rfl,?_⟩);all_goals (conv=>whnf))|(refine aG.of ?_;first|refine cS [0,1] c1 ?_|refine cS [0,1] c2 ?_|refine cS [0,1] c3 ?_))|(refine ai ?_;(try clear hP hK Kp K);try clear hK K)|refine sxW ?_ ?_<;>intro _|(intro K Kp hK hP _;conv=>whnf)|(intro K hK _;conv=>whnf)
   ·refine ⟨j,x,G,k,?_,h2,rfl,h4,MemFits.pre 2 rfl⟩
    rw [hspec,h1]
   ·rename_i b1 b2
    have hok:SlOk (.slice (some ⟨b2,0,none⟩) 1 1) [(p,u)].length:=⟨_,_,rfl,Nat.le_refl _,fun h=>by cases h⟩
    have hcs:denL [.int .i64 p.k,.int .i64 p.f,.int .i64 p.v,.hs u p.l.length]=[(p,u)].flatMap Pd.psV:=rfl
    have hrow:=aJ (F:=G) (sz:=4) (enc:=Pd.psV) (l:=[(p,u)]) hok hcs (fun x _=>rfl)
    refine ⟨.mk 4 0 0 [p],j,addF G ⟨b2,0,none⟩ _,.slice (some ⟨b2,0,none⟩) 1 1,by rw [hspec,h1],by omega,h3,h4.trans addF.old,Pd.row_of hrow fun y hy=>?_,rfl,(MemFits.pick (m':=[hpB G,_,Ps.pB b v l.length j]) [0,3,1] (by decide) rfl).trans (MemFits.freeze (m:=[Ps.pB b v l.length j]))⟩
    rw [List.mem_singleton.1 hy]
    exact Pd.Row.mono addF.old h5
  | false =>
  rw [if_neg (by decide)] at c3 hspec
  have cm:=fun G (h:F.le G) j (hj:j<l.length) s=>kU G v l (Ps.Toks.mono h hv) hn b (List.getElem?_eq_getElem hj) s
  have isj:=fun j (hj:j<l.length) s=>Ps.is_b (List.getElem?_eq_getElem hj) s
  have nxj:=fun j (hj:j<l.length) s=>hl.next (List.getElem?_eq_getElem hj) (s:=s)
  unfold Ps.pB at cm
  cases q4 with
  | true =>
   rw [if_pos rfl] at c4 hspec
   have cp:=hic (m4 rfl) F b hv
   generalize Ps.cond (l.map Lx.b) (Ps.part (l.map Lx.b) n) (i+1)=qq at *
   unfold Ps.pB at cp
   repeat' first|(intro K Kp hK hP;(with_reducible refine gCX ?_);first|(refine cX [0,1] cp rfl rfl ?_ ?_;((rintro _ _ ⟨p,j,G,u,h1,h2,h3,h4,h5,rfl,rfl⟩)<;>refine ⟨rfl,_,rfl,?_⟩);rotate_right;((rintro _ _ ⟨j,x,G,k,h1,h2,rfl,h4,rfl⟩)<;>refine ⟨rfl,?_⟩);all_goals (conv=>whnf))|(refine cX [0,1] (cm G h4 j h3 [41]) rfl rfl ?_ ?_;((rintro _ _ ⟨k1,rfl,rfl⟩)<;>refine ⟨rfl,_,rfl,?_⟩);rotate_right;((rintro _ _ ⟨k1,rfl,rfl⟩)<;>refine ⟨rfl,?_⟩);all_goals (conv=>whnf))|(refine aG.of ?_;first|refine cS [0,1] c1 ?_|refine cS [0,1] c2 ?_|refine cS [0,1] c3 ?_|refine cS [0,1] c4 ?_))|(refine ai ?_;(try clear hP hK Kp K);try clear hK K)|refine sxW ?_ ?_<;>intro _|(intro K Kp hK hP _;conv=>whnf)|(intro K hK _;conv=>whnf)
   ·refine ⟨j,x,G,k,?_,h2,rfl,h4,MemFits.pre 2 rfl⟩
    rw [hspec,h1]
    rfl
   ·refine ⟨j,_,G,j,?_,List.getElem?_eq_getElem h3,rfl,h4,MemFits.pre 2 rfl⟩
    rw [← isj j h3] at k1
    rw [hspec,h1]
    exact if_neg (by rw [show Ps.is (l.map Lx.b) j Ps.wShut=false from k1];decide)
   ·rw [← isj j h3] at k1
    refine ⟨p,j+1,G,u,?_,by omega,nxj j h3 _ k1,h4,h5,rfl,MemFits.pre 2 rfl⟩
    rw [hspec,h1]
    exact if_pos k1
  | false =>
   rw [if_neg (by decide)] at c4 hspec
   have cnum:=fun j (hj:j<l.length)=>gj F v l hv hn b (List.getElem?_eq_getElem hj)
   have tkj:=fun j (hj:j<l.length)=>Ps.tk_b (List.getElem?_eq_getElem hj)
   unfold Ps.pB at cnum
   rcases hfb with ⟨hq,hf⟩ | ⟨f,hq,hf,h1⟩
   ·rw [hq] at cf
    rw [Ps.assign_none hf] at hspec
    repeat' first|(intro K Kp hK hP;(with_reducible refine gCX ?_);first|(refine cX [0,1] cfl rfl rfl ?_ ?_;((rintro _ _ ⟨⟩)<;>refine ⟨rfl,_,rfl,?_⟩);rotate_right;((rintro _ _ ⟨rfl,rfl⟩)<;>refine ⟨rfl,?_⟩);all_goals (conv=>whnf))|(refine aG.of ?_;first|refine cS [0,1] c1 ?_|refine cS [0,1] c2 ?_|refine cS [0,1] c3 ?_|refine cS [0,1] c4 ?_|refine cS [0,1] cf ?_))|(refine ai ?_;(try clear hP hK Kp K);try clear hK K)|refine sxW ?_ ?_<;>intro _|(intro K Kp hK hP _;conv=>whnf)|(intro K hK _;conv=>whnf)
    all_goals exact ⟨i,_,F,i,hspec,hx,rfl,F.le_refl,MemFits.pre 2 rfl⟩
   ·rw [hq,if_pos (by omega)] at cf
    rw [Ps.assign_some hf] at hspec
    have hf6:f≤6:=by
     have:=(List.findIdx?_eq_some_iff_getElem.1 (show (Ps.words.take 6).findIdx? _=some f from by
      unfold Ps.field at hf
      split at hf
      ·exact hf
      ·cases hf)).1
     rw [List.length_take] at this
     omega
    have c5:=cm F F.le_refl (i+1) h1 [61]
    have c6:=fun h=>cnum (i+2) h
    repeat' first|(intro K Kp hK hP;(with_reducible refine gCX ?_);first|(refine cX [0,1] c5 rfl rfl ?_ ?_;((rintro _ _ ⟨k1,rfl,rfl⟩)<;>refine ⟨rfl,_,rfl,?_⟩);rotate_right;((rintro _ _ ⟨k1,rfl,rfl⟩)<;>refine ⟨rfl,?_⟩);all_goals (conv=>whnf))|(refine cX [0,1] (c6 (nxj (i+1) h1 [61] ((isj (i+1) h1 [61]).trans k1))) rfl rfl ?_ ?_;((rintro _ _ ⟨k2,rfl,rfl⟩)<;>refine ⟨rfl,_,rfl,?_⟩);rotate_right;((rintro _ _ ⟨k2,rfl,rfl⟩)<;>refine ⟨rfl,?_⟩);all_goals (conv=>whnf))|(refine aG.of ?_;first|refine cS [0,1] c1 ?_|refine cS [0,1] c2 ?_|refine cS [0,1] c3 ?_|refine cS [0,1] c4 ?_|refine cS [0,1] cf ?_))|(refine ai ?_;(try clear hP hK Kp K);try clear hK K)|refine sxW ?_ ?_<;>intro _|(intro K Kp hK hP _;conv=>whnf)|(intro K hK _;conv=>whnf)
    all_goals first | (exfalso;omega) | skip
    ·refine ⟨i+1,_,F,i+1,?_,List.getElem?_eq_getElem h1,rfl,F.le_refl,MemFits.pre 2 rfl⟩
     rw [← isj (i+1) h1] at k1
     rw [hspec,if_neg (by rw [show Ps.is (l.map Lx.b) (i+1) Ps.wEq=false from k1];decide)]
    ·have h2:=nxj (i+1) h1 [61] ((isj (i+1) h1 [61]).trans k1)
     refine ⟨i+2,_,F,i+2,?_,List.getElem?_eq_getElem h2,rfl,F.le_refl,MemFits.pre 2 rfl⟩
     rw [← isj (i+1) h1] at k1
     rw [hspec,if_pos (show Ps.is (l.map Lx.b) (i+1) Ps.wEq=true from k1),tkj (i+2) h2,if_neg (show ¬(Lx.b (l[i+2]'h2)).k=2 from k2)]
    ·have h2:=nxj (i+1) h1 [61] ((isj (i+1) h1 [61]).trans k1)
     refine ⟨.mk 3 f (l[i+2]'h2).n [],i+3,F,.slice none 0 0,?_,by omega,hl.end_ (i+2) _ (List.getElem?_eq_getElem h2) (by rw [k2];decide),F.le_refl,aH.nil,rfl,MemFits.pre 2 rfl⟩
     rw [← isj (i+1) h1] at k1
     rw [hspec,if_pos (show Ps.is (l.map Lx.b) (i+1) Ps.wEq=true from k1),tkj (i+2) h2,if_pos (show (Lx.b (l[i+2]'h2)).k=2 from k2)]
     rfl
namespace Ps
def Got27 (F:Heap) (v:Value) (l:List Lx.T) (b:Nat) (i:Nat) (q:R Po.T) (r:AV) (m:List Blk):Prop :=
 ∃ p j G pu u,q = .ok p j∧i≤j∧j<l.length∧F.le G∧Po.At G p pu u∧r = .agg (Po.cs p pu u)∧m=[hpB G,pB b v l.length j]
def P27 (v:Value) (l:List Lx.T) (f:FuncId) (q:R Po.T) (i:Nat):Prop :=
 ∀ (F:Heap) (b:Nat),Toks F v l→aG Tryz.prog f [.ptr 1 ⟨b,0,none⟩ 0] [hpB F,pB b v l.length i] (fun r m=>Got27 F v l b i q r m) (fun ch m=>Bad F v l b q ch m)
def Got27L (F:Heap) (v:Value) (l:List Lx.T) (b:Nat) (i:Nat) (q:R (List Po.T)) (r:AV) (m:List Blk):Prop :=
 ∃ xs j G u,q = .ok xs j∧i≤j∧j<l.length∧F.le G∧Po.Row G u xs∧r = .hs u xs.length∧m=[hpB G,pB b v l.length j]
end Ps
theorem i2 (v:Value) (l:List Lx.T) (hl:Ps.Good l) (s:List UInt8) (g:FuncId) (sp:Nat→Ps.R Po.T) (i0:Nat) (hi0:i0<l.length) (hg:∀ i,i0≤i→i<l.length→Ps.P27 v l g (sp i) i) (F:Heap) (b:Nat) (hv:Ps.Toks F v l) :
  aG Tryz.prog 70 [.ptr 1 ⟨b,0,none⟩ 0,.str s,.fn g [.ptr 1 ⟨b,0,none⟩ 0] []] [hpB F,Ps.pB b v l.length i0] (fun r m=>Ps.Got27L F v l b i0 (Ps.chain (l.map Lx.b) s sp i0) r m) (fun ch m=>Ps.Bad F v l b (Ps.chain (l.map Lx.b) s sp i0) ch m):=by
 refine aG.know (K:=fun r m=>∃ (ps:List Po.L) (j:Nat) (G:Heap) (w:Value),Ps.chain (l.map Lx.b) s sp i0 = .ok (ps.map (·.x)) j∧i0≤j∧j<l.length∧F.le G∧(∀ p∈ps,Po.At G p.x p.pu p.u)∧r.den=aw w∧MemFits m [hpB G,⟨addrOf w,Po.psC ps,.row w 71 8 ps.length⟩,Ps.pB b v l.length j]) (Kp:=fun ch m=>∃ j x G k,Ps.chain (l.map Lx.b) s sp i0 = .bad j∧l[j]?=some x∧ch=Ps.wrong x.at_∧F.le G∧MemFits m [hpB G,Ps.pB b v l.length k]) ?_ (fun r m' hq ⟨w0,hw0⟩=>?_) (fun ch m' hq=>?_)
 rotate_left
 ·obtain ⟨ps,j,G,w,h1,h2,h3,h4,h5,h6,h7⟩:=hq
  have hok:=((h7 w0 hw0).1.row (List.mem_cons_of_mem _ (List.mem_cons_self ..))).1
  have hrow:=aJ (F:=G) (sz:=8) (enc:=Po.psV) hok (Po.psC_den ps) (fun x _=>rfl)
  refine ⟨.hs w ps.length,_,h6.symm,h7.trans (MemFits.freeze (m:=[Ps.pB b v l.length j])),ps.map (·.x),j,_,w,h1,h2,h3,h4.trans addF.old,?_,by rw [List.length_map],rfl⟩
  exact Po.row_of hrow fun p hp=>Po.At.mono addF.old (h5 p hp)
 ·obtain ⟨j,x,G,k,h1,h2,h3,h4,h5⟩:=hq
  exact ⟨_,h5,j,x,G,k,h1,h2,h3,h4,rfl⟩
 have c0:=hg i0 (Nat.le_refl _) hi0 F b hv
 have hn:=hl.few
 have hspec:Ps.chain (l.map Lx.b) s sp i0=match sp i0 with
  | .ok x j=>Ps.more (l.map Lx.b) s sp ((l.map Lx.b).length+1 - j) [x] j
  | .bad j=>.bad j:=by unfold Ps.chain;cases sp i0<;>rfl
 have hlen:(l.map Lx.b).length=l.length:=List.length_map ..
 rw [hlen] at hspec
 generalize Ps.chain (l.map Lx.b) s sp i0=res at *
 generalize hq0:sp i0=q0 at *
 refine az Tryz.func70 rfl (by decide) ?_
 unfold Ps.pB at c0 ⊢
 repeat' first|(intro K Kp hK hP;(with_reducible refine gCX ?_);(refine cX [0,1] c0 rfl rfl ?_ ?_;((rintro _ _ ⟨p,j,G,pu,u,h1,h2,h3,h4,h5,rfl,rfl⟩)<;>refine ⟨rfl,_,rfl,?_⟩);rotate_right;((rintro _ _ ⟨j,x,G,k,h1,h2,rfl,h4,rfl⟩)<;>refine ⟨rfl,?_⟩);all_goals (conv=>whnf)))|(refine ai ?_;(try clear hP hK Kp K);try clear hK K)|refine sxW ?_ ?_<;>intro _|(intro K Kp hK hP _;conv=>whnf)|(intro K hK _;conv=>whnf)
 ·refine ⟨j,x,G,k,?_,h2,rfl,h4,MemFits.pre 2 rfl⟩
  rw [hspec,h1]
 rename_i b2
 rw [h1] at hspec
 dsimp only at hspec
 refine jw (α:=Heap × Value × List Po.L × Nat × Nat) (fun (G,w,ps,j,n)=>res=Ps.more (l.map Lx.b) s sp n (ps.map (·.x)) j∧i0≤j∧j<l.length∧l.length - j<n∧F.le G∧ps.length≤j+1∧∀ p∈ps,Po.At G p.x p.pu p.u)
  (fun (G,w,ps,j,n)=>[.k,.k,.k,.k,.k,.k,.k,.set (.sl 2 w ps.length),.k,.k,.k,.d,.d,.d,.d,.d,.d,.d,.d,.k]) (fun (G,w,ps,j,n)=>[.set (hpB G),.set (Ps.pB b v l.length j),.set ⟨addrOf w,Po.psC ps,.row w 71 8 ps.length⟩]) (fun (G,w,ps,j,n)=>l.length - j)
  (G,.slice (some ⟨b2,0,none⟩) 1 1,[⟨p,pu,u⟩],j,l.length+1 - j) ⟨hspec,h2,h3,by omega,h4,by simp,fun x hx=>by rw [List.mem_singleton.1 hx];exact h5⟩ ?_ ?_ ?_
 ·exact aC
 ·exact MemFits.eq rfl
 (intro ⟨G1,w,ps,j1,n⟩ ⟨hres,hij,hjl,hnl,hle,hpl,hall⟩;intro K hK;(conv=>whnf);refine hK _ _ ?_;clear hK K)
 dsimp only at hres hij hjl hnl hle hpl hall ⊢
 obtain ⟨n,rfl⟩:∃ k,n=k+1:=⟨n - 1,by omega⟩
 have hx1:l[j1]?=some l[j1]:=List.getElem?_eq_getElem hjl
 have ci:=cU G1 v l (Ps.Toks.mono hle hv) hn b hx1 s
 have hisb:=Ps.is_b hx1 s
 have hnext:=hl.next hx1 (s:=s)
 rw [← hisb] at ci
 unfold Ps.more at hres
 have hpc:=Po.psC_len ps
 generalize Ps.is (l.map Lx.b) j1 s=qi at *
 cases qi with
 | false =>
  rw [if_neg (by decide)] at ci hres
  repeat' first|(intro K Kp hK hP;(with_reducible refine gCX ?_);(refine aG.of ?_;first|refine cS [0,1] ci ?_))|(refine ai ?_;(try clear hP hK Kp K);try clear hK K)|refine sxW ?_ ?_<;>intro _|(intro K Kp hK hP _;conv=>whnf)|(intro K hK _;conv=>whnf)
  all_goals exact ⟨ps,j1,G1,w,hres,hij,hjl,hle,hall,rfl,MemFits.pick [0,2,1] (by decide) rfl⟩
 | true =>
  rw [if_pos rfl] at ci hres
  have c1:=hg (j1+1) (by omega) (hnext rfl) G1 b (Ps.Toks.mono hle hv)
  generalize hq1:sp (j1+1)=q1 at *
  unfold Ps.pB at ci c1
  repeat' first|(intro K Kp hK hP;(with_reducible refine gCX ?_);first|(refine cX [0,1] c1 rfl rfl ?_ ?_;((rintro _ _ ⟨p2,j2,G2,pu2,u2,k1,k2,k3,k4,k5,rfl,rfl⟩)<;>refine ⟨rfl,_,rfl,?_⟩);rotate_right;((rintro _ _ ⟨j2,x2,G2,k',k1,k2,rfl,k4,rfl⟩)<;>refine ⟨rfl,?_⟩);all_goals (conv=>whnf))|(refine aG.of ?_;first|refine cS [0,1] ci ?_))|(refine ai ?_;(try clear hP hK Kp K);try clear hK K)|refine sxW ?_ ?_<;>intro _|(intro K Kp hK hP _;conv=>whnf)|(intro K hK _;conv=>whnf)
  ·refine ⟨j2,x2,G2,k',?_,k2,rfl,hle.trans k4,MemFits.pre 2 rfl⟩
   rw [hres,k1]
  ·rename_i b3 w2
   have hpn:=Po.psC_next ps (⟨p2,pu2,u2⟩:Po.L)
   have hpl2:(ps++[(⟨p2,pu2,u2⟩:Po.L)]).length=ps.length+1:=by rw [List.length_append];rfl
   rw [k1] at hres
   dsimp only at hres
   refine aB (G2,w2,ps++[⟨p2,pu2,u2⟩],j2,n) ⟨by rw [List.map_append];exact hres,Nat.le_trans hij (Nat.le_trans (Nat.le_succ _) k2),k3,by dsimp only;omega,hle.trans k4,by dsimp only;rw [hpl2];omega,fun x hx=>?_⟩ (by show l.length - j2<l.length - j1;omega) ?_ ?_
   ·rcases List.mem_append.1 hx with hx | hx
    ·exact Po.At.mono k4 (hall x hx)
    ·rw [List.mem_singleton.1 hx];exact k5
   ·dsimp only
    rw [hpl2]
    exact aC
   ·dsimp only
    rw [hpn,hpl2]
    exact MemFits.pre 3 rfl
theorem mS (v:Value) (l:List Lx.T) (hl:Ps.Good l) (sp:Nat→Ps.R Po.T) (i0:Nat) (hi0:i0<l.length) (hg:∀ i,i0≤i→i<l.length→Ps.P27 v l 101 (sp i) i):Ps.P27 v l 71 (Ps.row (l.map Lx.b) sp i0) i0:=by
 intro F b hv
 refine aG.fits (K:=fun r m=>∃ p j G pu u,Ps.row (l.map Lx.b) sp i0 = .ok p j∧i0≤j∧j<l.length∧F.le G∧Po.At G p pu u∧r.den=(AV.agg (Po.cs p pu u)).den∧MemFits m [hpB G,Ps.pB b v l.length j]) (Kp:=fun ch m=>∃ j x G k,Ps.row (l.map Lx.b) sp i0 = .bad j∧l[j]?=some x∧ch=Ps.wrong x.at_∧F.le G∧MemFits m [hpB G,Ps.pB b v l.length k]) ?_ (fun r m' ⟨p,j,G,pu,u,h1,h2,h3,h4,h5,h6,h7⟩=>⟨_,_,h6.symm,h7,p,j,G,pu,u,h1,h2,h3,h4,h5,rfl,rfl⟩) (fun ch m' ⟨j,x,G,k,h1,h2,h3,h4,h5⟩=>⟨_,h5,j,x,G,k,h1,h2,h3,h4,rfl⟩)
 have cc:=i2 v l hl Ps.wSemi 101 sp i0 hi0 hg F b hv
 have hn:=hl.few
 unfold Ps.row
 generalize Ps.chain (l.map Lx.b) Ps.wSemi sp i0=q at *
 refine az Tryz.func71 rfl (by decide) ?_
 unfold Ps.pB at cc ⊢
 unfold Ps.wSemi at cc
 repeat' first|(intro K Kp hK hP;(with_reducible refine gCX ?_);(refine cX [0,1] cc rfl rfl ?_ ?_;((rintro _ _ ⟨xs,j,G,u,h1,h2,h3,h4,h5,rfl,rfl⟩)<;>refine ⟨rfl,_,rfl,?_⟩);rotate_right;((rintro _ _ ⟨j,x,G,k,h1,h2,rfl,h4,rfl⟩)<;>refine ⟨rfl,?_⟩);all_goals (conv=>whnf)))|(refine ai ?_;(try clear hP hK Kp K);try clear hK K)|refine sxW ?_ ?_<;>intro _|(intro K Kp hK hP _;conv=>whnf)|(intro K hK _;conv=>whnf)
 ·refine ⟨j,x,G,k,?_,h2,rfl,h4,MemFits.pre 2 rfl⟩
  rw [h1]
  rfl
 have huk:=h5.ok
 subst h1
 by_cases hone:xs.length=1
 ·obtain ⟨y,rfl⟩:=List.length_eq_one_iff.1 hone
  obtain ⟨pA,pcap,A,cap,hr,d0,d1,d2,d3,d4,d5,d6,d7⟩:=h5.get (i:=0) (x:=y) rfl
  rw [Nat.zero_mul] at d0 d1 d2 d3 d4 d5 d6 d7
  have hAo:=hr.l.ok
  have hAp:=hr.p.ok
  repeat' first|((first|intro A B hA hB|intro K hK|skip);first|((with_reducible refine NIf.yes ?s ?_);(case s=>simp ;done);conv=>whnf)|((with_reducible refine NIf.no ?s ?_);(case s=>simp ;done);conv=>whnf))|(refine ai ?_;(try clear hP hK Kp K);(try clear hK K);try clear hA hB A B)|refine sxW ?_ ?_<;>intro _|(intro K Kp hK hP _;conv=>whnf)|(intro K hK _;conv=>whnf)
  all_goals exact ⟨y,j,G,_,_,rfl,h2,h3,h4,hr,rfl,MemFits.pre 2 rfl⟩
 ·have hw:=Ps.wrap_not (f:=fun xs=>Po.T.mk 3 Ps.none26 0 0 xs) (j:=j) hone
  have hone2:¬(xs.length:Int)=1:=by omega
  repeat' first|((first|intro A B hA hB|intro K hK|skip);first|((with_reducible refine NIf.yes ?s ?_);(case s=>simp [hone2];done);conv=>whnf)|((with_reducible refine NIf.no ?s ?_);(case s=>simp [hone2];done);conv=>whnf))|(refine ai ?_;(try clear hP hK Kp K);(try clear hK K);try clear hA hB A B)|refine sxW ?_ ?_<;>intro _|(intro K Kp hK hP _;conv=>whnf)|(intro K hK _;conv=>whnf)
  all_goals exact ⟨.mk 3 Ps.none26 0 0 xs,j,G,.slice none 0 0,u,hw,h2,h3,h4,⟨aH.nil,h5⟩,rfl,MemFits.pre 2 rfl⟩
theorem gd (v:Value) (l:List Lx.T) (hl:Ps.Good l) (sp:Nat→Ps.R Po.T) (i0:Nat) (hi0:i0<l.length) (hg:∀ i,i0≤i→i<l.length→Ps.P27 v l 71 (Ps.row (l.map Lx.b) sp i) i):Ps.P27 v l 42 (Ps.rows (l.map Lx.b) sp i0) i0:=by
 intro F b hv
 refine aG.fits (K:=fun r m=>∃ p j G pu u,Ps.rows (l.map Lx.b) sp i0 = .ok p j∧i0≤j∧j<l.length∧F.le G∧Po.At G p pu u∧r.den=(AV.agg (Po.cs p pu u)).den∧MemFits m [hpB G,Ps.pB b v l.length j]) (Kp:=fun ch m=>∃ j x G k,Ps.rows (l.map Lx.b) sp i0 = .bad j∧l[j]?=some x∧ch=Ps.wrong x.at_∧F.le G∧MemFits m [hpB G,Ps.pB b v l.length k]) ?_ (fun r m' ⟨p,j,G,pu,u,h1,h2,h3,h4,h5,h6,h7⟩=>⟨_,_,h6.symm,h7,p,j,G,pu,u,h1,h2,h3,h4,h5,rfl,rfl⟩) (fun ch m' ⟨j,x,G,k,h1,h2,h3,h4,h5⟩=>⟨_,h5,j,x,G,k,h1,h2,h3,h4,rfl⟩)
 have cc:=i2 v l hl Ps.wBar 71 (Ps.row (l.map Lx.b) sp) i0 hi0 hg F b hv
 have hn:=hl.few
 unfold Ps.rows
 generalize Ps.chain (l.map Lx.b) Ps.wBar (Ps.row (l.map Lx.b) sp) i0=q at *
 refine az Tryz.func42 rfl (by decide) ?_
 unfold Ps.pB at cc ⊢
 unfold Ps.wBar at cc
 repeat' first|(intro K Kp hK hP;(with_reducible refine gCX ?_);(refine cX [0,1] cc rfl rfl ?_ ?_;((rintro _ _ ⟨xs,j,G,u,h1,h2,h3,h4,h5,rfl,rfl⟩)<;>refine ⟨rfl,_,rfl,?_⟩);rotate_right;((rintro _ _ ⟨j,x,G,k,h1,h2,rfl,h4,rfl⟩)<;>refine ⟨rfl,?_⟩);all_goals (conv=>whnf)))|(refine ai ?_;(try clear hP hK Kp K);try clear hK K)|refine sxW ?_ ?_<;>intro _|(intro K Kp hK hP _;conv=>whnf)|(intro K hK _;conv=>whnf)
 ·refine ⟨j,x,G,k,?_,h2,rfl,h4,MemFits.pre 2 rfl⟩
  rw [h1]
  rfl
 have huk:=h5.ok
 subst h1
 by_cases hone:xs.length=1
 ·obtain ⟨y,rfl⟩:=List.length_eq_one_iff.1 hone
  obtain ⟨pA,pcap,A,cap,hr,d0,d1,d2,d3,d4,d5,d6,d7⟩:=h5.get (i:=0) (x:=y) rfl
  rw [Nat.zero_mul] at d0 d1 d2 d3 d4 d5 d6 d7
  have hAo:=hr.l.ok
  have hAp:=hr.p.ok
  repeat' first|((first|intro A B hA hB|intro K hK|skip);first|((with_reducible refine NIf.yes ?s ?_);(case s=>simp ;done);conv=>whnf)|((with_reducible refine NIf.no ?s ?_);(case s=>simp ;done);conv=>whnf))|(refine ai ?_;(try clear hP hK Kp K);(try clear hK K);try clear hA hB A B)|refine sxW ?_ ?_<;>intro _|(intro K Kp hK hP _;conv=>whnf)|(intro K hK _;conv=>whnf)
  all_goals exact ⟨y,j,G,_,_,rfl,h2,h3,h4,hr,rfl,MemFits.pre 2 rfl⟩
 ·have hw:=Ps.wrap_not (f:=fun xs=>Po.T.mk 4 Ps.none26 0 0 xs) (j:=j) hone
  have hone2:¬(xs.length:Int)=1:=by omega
  repeat' first|((first|intro A B hA hB|intro K hK|skip);first|((with_reducible refine NIf.yes ?s ?_);(case s=>simp [hone2];done);conv=>whnf)|((with_reducible refine NIf.no ?s ?_);(case s=>simp [hone2];done);conv=>whnf))|(refine ai ?_;(try clear hP hK Kp K);(try clear hK K);try clear hA hB A B)|refine sxW ?_ ?_<;>intro _|(intro K Kp hK hP _;conv=>whnf)|(intro K hK _;conv=>whnf)
  all_goals exact ⟨.mk 4 Ps.none26 0 0 xs,j,G,.slice none 0 0,u,hw,h2,h3,h4,⟨aH.nil,h5⟩,rfl,MemFits.pre 2 rfl⟩
end Go.Proofs.YtmehinfgdcmmjaaGreat
namespace Go.Sx
set_option linter.unusedVariables false
section
variable {P:Program}
end
def rS {α:Type} (ok:α→Prop) (s:α→List AV) (mm:α→List Blk) (Rp:List PanicEntry→List Blk→Prop):Post:=fun e sl m=>match e with
 | .normal=>KnowP m (∃ x,ok x∧FitsSl sl (s x)∧MemFits m (mm x))
 | .panic ch=>Rp ch m
 | _=>False
theorem nw {α:Type} {ok:α→Prop} {s:α→List AV} {mm:α→List Blk} {Rp:List PanicEntry→List Blk→Prop} {sl:List AV} {m:List Blk} (x:α) (hx:ok x) (hs:FitsSl sl (s x)) (hm:MemFits m (mm x)):rS ok s mm Rp .normal sl m :=
 KnowP.mk fun _=>⟨x,hx,hs,hm⟩
theorem mA {α:Type} {ok:α→Prop} {s:α→List AV} {mm:α→List Blk} {Rp:List PanicEntry→List Blk→Prop} {sl:List AV} {m:List Blk} (h:(∃ w,MemOk m w)→∃ x,ok x∧FitsSl sl (s x)∧MemFits m (mm x)):rS ok s mm Rp .normal sl m :=
 KnowP.mk h
theorem fV {P:Program} {Q:Post} {sl:List AV} {m:List Blk} {id:Nat} {ops:Array Oper} {α:Type} (ok:α→Prop) (us:α→List Up) (ms:α→List UpB) (Rp:List PanicEntry→List Blk→Prop)
  (h1:codeX P (.region id ops true) sl m (rS ok (fun x=>cQ sl (us x)) (fun x=>autoM m (ms x)) Rp))
  (hp:∀ ch sl' m',Rp ch m'→Q (.panic ch) sl' m')
  (h2:∀ x,ok x→∀ K:List AV→List Blk→Prop,(∀ sl' m',Q .normal sl' m'→K sl' m')→fp sl (us x) fun sl'=>dV m (ms x) fun m'=>K sl' m'):codeX P (.region id ops true) sl m Q:=by
 simp only [codeX] at h1 ⊢
 unfold jl at h1 ⊢
 intro id w0 S a w hsim
 refine wp_mono (h1 id w0 S a w hsim) fun e a w hq=>?_
 obtain ⟨sl',m',h3,h4⟩:=hq
 cases e with
 | normal =>
  obtain ⟨x,hx,hs,hm⟩:=KnowP.get h3 ⟨w,h4.mem⟩
  exact ⟨_,_,ar _ _ (ba _ _ (h2 x hx (fun sl' m'=>Q .normal sl' m') fun _ _ h=>h)),h4.fits hs hm⟩
 | panic ch=>exact ⟨_,_,hp ch sl' m' h3,h4⟩
 | exit _=>exact h3.elim
 | goto _=>exact h3.elim
 | ret=>exact h3.elim
 | outgrown=>exact h3.elim
end Go.Sx
namespace Go.Proofs.YtmehinfgdcmmjaaGreat
open Go.Sx
set_option maxRecDepth 20000
set_option linter.unusedSimpArgs false
set_option linter.unusedVariables false
set_option maxHeartbeats 4000000
theorem jt (v:Value) (l:List Lx.T) (hl:Ps.Good l):∀ (n i:Nat),l.length - i≤n→i<l.length→Ps.P27 v l 101 (Ps.step (l.map Lx.b) n i) i
 | 0,i,h0,h1=>by omega
 | n+1,i,hni,hil=>by
  intro F b hv
  refine aG.fits (K:=fun r m=>∃ p j G pu u,Ps.step (l.map Lx.b) (n+1) i = .ok p j∧i≤j∧j<l.length∧F.le G∧Po.At G p pu u∧r.den=(AV.agg (Po.cs p pu u)).den∧MemFits m [hpB G,Ps.pB b v l.length j]) (Kp:=fun ch m=>∃ j x G k,Ps.step (l.map Lx.b) (n+1) i = .bad j∧l[j]?=some x∧ch=Ps.wrong x.at_∧F.le G∧MemFits m [hpB G,Ps.pB b v l.length k]) ?_ (fun r m' ⟨p,j,G,pu,u,h1,h2,h3,h4,h5,h6,h7⟩=>⟨_,_,h6.symm,h7,p,j,G,pu,u,h1,h2,h3,h4,h5,rfl,rfl⟩) (fun ch m' ⟨j,x,G,k,h1,h2,h3,h4,h5⟩=>⟨_,h5,j,x,G,k,h1,h2,h3,h4,rfl⟩)
  have hn:=hl.few
  have hx:l[i]?=some l[i]:=List.getElem?_eq_getElem hil
  have hlen:(l.map Lx.b).length=l.length:=List.length_map ..
  have hih:∀ i',i+1≤i'→i'<l.length→Ps.P27 v l 101 (Ps.step (l.map Lx.b) n i') i':=fun i' h1 h2=>jt v l hl n i' (by omega) h2
  have hip:=fun h=>gd v l hl (Ps.step (l.map Lx.b) n) (i+1) h fun i' h1 h2=>mS v l hl (Ps.step (l.map Lx.b) n) i' h2 fun i'' h3 h4=>hih i'' (by omega) h4
  have hic:=fun h=>kw v l hl (Ps.part (l.map Lx.b) (l.map Lx.b).length) (i+1) h fun i' h1 h2=>iq v l hl (Ps.part (l.map Lx.b) (l.map Lx.b).length) i' h2 fun i'' h3 h4=>kG v l hl (l.map Lx.b).length i'' (by rw [hlen];omega) h4
  have c1:=cU F v l hv hn b hx Ps.wDrop
  have c2:=cU F v l hv hn b hx Ps.wId
  have c3:=cU F v l hv hn b hx Ps.wWhen
  have c4:=cU F v l hv hn b hx Ps.wIf
  have c5:=cU F v l hv hn b hx Ps.wOpen
  have cf:=iw F v l hv hn b (many:=5) (by decide) hx
  have hfb:=Ps.field_b hl (many:=5) hx
  have cfl:=eK F v l hv hn b hx
  rw [← Ps.is_b hx] at c1 c2 c3 c4 c5
  have n1:=fun s=>hl.next hx (s:=s)
  have hspec:Ps.step (l.map Lx.b) (n+1) i=if Ps.is (l.map Lx.b) i Ps.wDrop=true then .ok (.mk 1 (.mk 2 0 0 []) 0 0 []) (i+1)
   else if Ps.is (l.map Lx.b) i Ps.wId=true then .ok (.mk 1 (.mk 1 0 0 []) 0 0 []) (i+1)
   else if Ps.is (l.map Lx.b) i Ps.wWhen=true then match Ps.cond (l.map Lx.b) (Ps.part (l.map Lx.b) (l.map Lx.b).length) (i+1) with
    | .ok c j=>.ok (.mk 1 c 0 0 []) j
    | .bad j=>.bad j
   else if Ps.is (l.map Lx.b) i Ps.wIf=true then Ps.choice (l.map Lx.b) (Ps.cond (l.map Lx.b) (Ps.part (l.map Lx.b) (l.map Lx.b).length)) (Ps.step (l.map Lx.b) n) (i+1)
   else if Ps.is (l.map Lx.b) i Ps.wOpen=true then Ps.shut (l.map Lx.b) (Ps.rows (l.map Lx.b) (Ps.step (l.map Lx.b) n) (i+1))
   else match Ps.assign (l.map Lx.b) 5 Ps.wSet i with
    | .ok (f,v) j=>.ok (.mk 2 Ps.none26 f v []) j
    | .bad j=>.bad j:=by
   rw [Ps.step]
   split
   ·rfl
   split
   ·rfl
   split
   ·cases Ps.cond (l.map Lx.b) (Ps.part (l.map Lx.b) (l.map Lx.b).length) (i+1)<;>rfl
   split
   ·rfl
   split
   ·rfl
   ·rcases Ps.assign (l.map Lx.b) 5 Ps.wSet i with ⟨⟨f,v⟩,j⟩ | j<;>rfl
  have m1:=n1 Ps.wDrop
  have m2:=n1 Ps.wId
  have m3:=n1 Ps.wWhen
  have m4:=n1 Ps.wIf
  have m5:=n1 Ps.wOpen
  generalize Ps.step (l.map Lx.b) (n+1) i=res at *
  generalize Ps.is (l.map Lx.b) i Ps.wDrop=q1 at *
  generalize Ps.is (l.map Lx.b) i Ps.wId=q2 at *
  generalize Ps.is (l.map Lx.b) i Ps.wWhen=q3 at *
  generalize Ps.is (l.map Lx.b) i Ps.wIf=q4 at *
  generalize Ps.is (l.map Lx.b) i Ps.wOpen=q5 at *
  unfold Ps.pB at c1 c2 c3 c4 c5 cf cfl ⊢
  unfold Ps.wDrop at c1
  unfold Ps.wId at c2
  unfold Ps.wWhen at c3
  unfold Ps.wIf at c4
  unfold Ps.wOpen at c5
  have cm:=fun G (h:F.le G) j (hj:j<l.length) s=>kU G v l (Ps.Toks.mono h hv) hn b (List.getElem?_eq_getElem hj) s
  have isj:=fun j (hj:j<l.length) s=>Ps.is_b (List.getElem?_eq_getElem hj) s
  have nxj:=fun j (hj:j<l.length) s=>hl.next (List.getElem?_eq_getElem hj) (s:=s)
  unfold Ps.pB at cm
  refine az Tryz.func101 rfl (by decide) ?_
  cases q1 with
  | true =>
   rw [if_pos rfl] at c1 hspec
   repeat' first|(intro K Kp hK hP;(with_reducible refine gCX ?_);(refine aG.of ?_;first|refine cS [0,1] c1 ?_))|(refine ai ?_;(try clear hP hK Kp K);try clear hK K)|refine sxW ?_ ?_<;>intro _|(intro K Kp hK hP _;conv=>whnf)|(intro K hK _;conv=>whnf)
   all_goals exact ⟨_,i+1,F,.slice none 0 0,.slice none 0 0,hspec,by omega,m1 rfl,F.le_refl,⟨aH.nil,aH.nil⟩,rfl,MemFits.pre 2 rfl⟩
  | false =>
  rw [if_neg (by decide)] at c1 hspec
  cases q2 with
  | true =>
   rw [if_pos rfl] at c2 hspec
   repeat' first|(intro K Kp hK hP;(with_reducible refine gCX ?_);(refine aG.of ?_;first|refine cS [0,1] c1 ?_|refine cS [0,1] c2 ?_))|(refine ai ?_;(try clear hP hK Kp K);try clear hK K)|refine sxW ?_ ?_<;>intro _|(intro K Kp hK hP _;conv=>whnf)|(intro K hK _;conv=>whnf)
   all_goals exact ⟨_,i+1,F,.slice none 0 0,.slice none 0 0,hspec,by omega,m2 rfl,F.le_refl,⟨aH.nil,aH.nil⟩,rfl,MemFits.pre 2 rfl⟩
  | false =>
  rw [if_neg (by decide)] at c2 hspec
  cases q3 with
  | true =>
   rw [if_pos rfl] at c3 hspec
   have cp:=hic (m3 rfl) F b hv
   generalize Ps.cond (l.map Lx.b) (Ps.part (l.map Lx.b) (l.map Lx.b).length) (i+1)=qq at *
   unfold Ps.pB at cp
   repeat' first|(intro K Kp hK hP;(with_reducible refine gCX ?_);first|(refine cX [0,1] cp rfl rfl ?_ ?_;((rintro _ _ ⟨p,j,G,u,h1,h2,h3,h4,h5,rfl,rfl⟩)<;>refine ⟨rfl,_,rfl,?_⟩);rotate_right;((rintro _ _ ⟨j,x,G,k,h1,h2,rfl,h4,rfl⟩)<;>refine ⟨rfl,?_⟩);all_goals (conv=>whnf))|(refine aG.of ?_;first|refine cS [0,1] c1 ?_|refine cS [0,1] c2 ?_|refine cS [0,1] c3 ?_))|(refine ai ?_;(try clear hP hK Kp K);try clear hK K)|refine sxW ?_ ?_<;>intro _|(intro K Kp hK hP _;conv=>whnf)|(intro K hK _;conv=>whnf)
   ·refine ⟨j,x,G,k,?_,h2,rfl,h4,MemFits.pre 2 rfl⟩
    rw [hspec,h1]
   ·refine ⟨.mk 1 p 0 0 [],j,G,u,.slice none 0 0,by rw [hspec,h1],by omega,h3,h4,⟨h5,aH.nil⟩,rfl,MemFits.pre 2 rfl⟩
  | false =>
  rw [if_neg (by decide)] at c3 hspec
  cases q4 with
  | true =>
   rw [if_pos rfl] at c4 hspec
   have cp:=hic (m4 rfl) F b hv
   generalize hcnd:Ps.cond (l.map Lx.b) (Ps.part (l.map Lx.b) (l.map Lx.b).length)=cnd at *
   generalize hqq:cnd (i+1)=qq at *
   have hst:=fun G (h:F.le G) j (h1:i+1≤j) (h2:j<l.length)=>hih j h1 h2 G b (Ps.Toks.mono h hv)
   generalize hstp:Ps.step (l.map Lx.b) n=stp at *
   unfold Ps.pB at cp
   (repeat' (first|((first|((with_reducible refine gCX ?_);(first|(refine cX [0,1] (cp) rfl rfl ?_ ?_;((rintro _ _ ⟨c,j,G,u,h1,h2,h3,h4,h5,rfl,rfl⟩)<;>refine ⟨rfl,_,rfl,?_⟩);rotate_right;((rintro _ _ ⟨j,x,G,k,h1,h2,rfl,h4,rfl⟩)<;>refine ⟨rfl,?_⟩))|(refine cX [0,1] (cm G h4 j h3 [116,104,101,110]) rfl rfl ?_ ?_;((rintro _ _ ⟨k1,rfl,rfl⟩)<;>refine ⟨rfl,_,rfl,?_⟩);rotate_right;((rintro _ _ ⟨k1,rfl,rfl⟩)<;>refine ⟨rfl,?_⟩))|(refine aG.of ?_;(first|(refine cE [0,1] (c1) rfl rfl ?_)|(refine cE [0,1] (c2) rfl rfl ?_)|(refine cE [0,1] (c3) rfl rfl ?_)|(refine cE [0,1] (c4) rfl rfl ?_)))))|((with_reducible refine gC ?_);(first|(refine cE [0,1] (c1) rfl rfl ?_)|(refine cE [0,1] (c2) rfl rfl ?_)|(refine cE [0,1] (c3) rfl rfl ?_)|(refine cE [0,1] (c4) rfl rfl ?_))))<;>(conv=>whnf))|(refine sxX ?_;(first|clear hP hK Kp K|skip);(first|clear hK K|skip);(first|clear hA hB A B|skip))|((with_reducible refine gXX ?_);fail)|((with_reducible refine gX ?_);(refine z34 (by kernel_rfl) (by kernel_rfl) ?_))|(refine sxIX ?_;intro K hK;conv=>whnf)|(refine rd ?_;intro K Kp hK hP;conv=>whnf)|(refine sxCX ?_;intro A B hA hB;(conv=>whnf);((with_reducible refine NIf.dec (fun _=>?_) (fun _=>?_))<;>(conv=>whnf)))|(refine sxCX ?_;intro A B hA hB;conv=>whnf)|((with_reducible first|refine NIf.dec (fun _=>?_) (fun _=>?_)|refine NIf.both (fun _=>?_) (fun _=>?_))<;>(conv=>whnf))|((intro _;skip)<;>(conv=>whnf))))
   ·refine ⟨j,x,G,k,?_,h2,rfl,h4,MemFits.pre 2 rfl⟩
    rw [hspec]
    unfold Ps.choice
    rw [hqq,h1]
   ·rw [← isj j h3] at k1
    refine ⟨j,_,G,j,?_,List.getElem?_eq_getElem h3,rfl,h4,MemFits.pre 2 rfl⟩
    rw [hspec]
    unfold Ps.choice
    rw [hqq,h1]
    exact if_neg (by rw [show Ps.is (l.map Lx.b) j Ps.wThen=false from k1];decide)
   rename_i b1 b2
   rw [← isj j h3] at k1
   have hj1:=nxj j h3 _ k1
   have hs1:res=match stp (j+1) with
    | .bad j=>.bad j
    | .ok a j=>if Ps.is (l.map Lx.b) j Ps.wElse=true then match stp (j+1) with
      | .bad j=>.bad j
      | .ok b j=>.ok (.mk 5 c 0 0 [a,b]) j
     else .bad j:=by
    rw [hspec]
    unfold Ps.choice
    rw [hqq,h1]
    dsimp only
    rw [if_pos (show Ps.is (l.map Lx.b) j Ps.wThen=true from k1)]
    cases stp (j+1) with
    | bad=>rfl
    | ok a j' =>
     dsimp only
     cases Ps.is (l.map Lx.b) j' Ps.wElse with
     | false=>rfl
     | true=>cases stp (j'+1)<;>rfl
   have cs1:=hst G h4 (j+1) (by omega) hj1
   generalize hq1:stp (j+1)=sq at *
   unfold Ps.pB at cs1
   refine fV (α:=Po.T × Nat × Heap × Value × Value × Value) (fun (a,ja,Ga,pa,ua,w)=>sq = .ok a ja∧j+1≤ja∧ja<l.length∧G.le Ga∧Po.At Ga a pa ua) (fun (a,ja,Ga,pa,ua,w)=>List.replicate 67 .k)
    (fun (a,ja,Ga,pa,ua,w)=>[.set (hpB Ga),.set (Ps.pB b v l.length ja),.k,.set ⟨⟨b2,0,none⟩,[.int .i64 5,.int .i64 c.k,.int .i64 c.f,.int .i64 c.v,.hs u c.l.length,.int .i64 0,.int .i64 0,.sl 4 w 1],.var 71⟩,.set ⟨addrOf w,Po.psC [⟨a,pa,ua⟩],.row w 71 8 1⟩])
    (fun ch m=>∃ ja xa Ga ka,sq = .bad ja∧l[ja]?=some xa∧ch=Ps.wrong xa.at_∧G.le Ga∧MemFits m [hpB Ga,Ps.pB b v l.length ka]) ?_ (fun ch sl' m' hq=>?_) ?_
   ·repeat' first|(intro K Kp hK hP;(with_reducible refine gCX ?_);(refine cX [0,1] cs1 rfl rfl ?_ ?_;((rintro _ _ ⟨a,ja,Ga,pa,ua,ha1,ha2,ha3,ha4,ha5,rfl,rfl⟩)<;>refine ⟨rfl,_,rfl,?_⟩);rotate_right;((rintro _ _ ⟨ja,xa,Ga,ka,ha1,ha2,rfl,ha4,rfl⟩)<;>refine ⟨rfl,?_⟩);all_goals (conv=>whnf)))|(refine rE ?_;(try clear hP hK Kp K);try clear hK K)|refine sxW ?_ ?_<;>intro _|refine rD ?_ ?_|(intro K Kp hK hP _;conv=>whnf)|(intro K hK _;conv=>whnf)
    all_goals try exact ⟨ja,xa,Ga,ka,ha1,ha2,rfl,ha4,MemFits.pre 2 rfl⟩
    all_goals rename_i b3 w2
    all_goals refine nw (a,ja,Ga,pa,ua,w2) ⟨ha1,ha2,ha3,ha4,ha5⟩ ?_ (by refine (MemFits.pick (m':=[hpB Ga,Ps.pB b v l.length ja,_,_,_]) [0,1,2,3,5] (by decide) rfl).trans ?_;exact MemFits.congr rfl)
    all_goals exact aC
   ·obtain ⟨ja,xa,Ga,ka,g1,g2,rfl,g4,g5⟩:=hq
    repeat' first|(refine ai ?_;(try clear hP hK Kp K);try clear hK K)|refine sxW ?_ ?_<;>intro _|(intro K Kp hK hP _;conv=>whnf)|(intro K hK _;conv=>whnf)
    all_goals exact ⟨ja,xa,Ga,ka,by rw [hs1,g1],g2,rfl,h4.trans g4,g5⟩
   (intro ⟨a,ja,Ga,pa,ua,w⟩ ⟨ha1,ha2,ha3,ha4,ha5⟩;intro K hK;(conv=>whnf);refine hK _ _ ?_;clear hK K)
   try dsimp only at ha1 ha2 ha3 ha4 ha5
   rw [ha1] at hs1
   dsimp only at hs1
   have hGa:=h4.trans ha4
   (repeat' (first|((first|((with_reducible refine gCX ?_);(refine cX [0,1] (cm Ga hGa ja ha3 [101,108,115,101]) rfl rfl ?_ ?_;((rintro _ _ ⟨k2,rfl,rfl⟩)<;>refine ⟨rfl,_,rfl,?_⟩);rotate_right;((rintro _ _ ⟨k2,rfl,rfl⟩)<;>refine ⟨rfl,?_⟩))))<;>(conv=>whnf))|(refine sxX ?_;(first|clear hP hK Kp K|skip);(first|clear hK K|skip);(first|clear hA hB A B|skip))|((with_reducible refine gXX ?_);fail)|((with_reducible refine gX ?_);(refine z34 (by kernel_rfl) (by kernel_rfl) ?_))|(refine sxIX ?_;intro K hK;conv=>whnf)|(refine rd ?_;intro K Kp hK hP;conv=>whnf)|(refine sxCX ?_;intro A B hA hB;(conv=>whnf);((with_reducible refine NIf.dec (fun _=>?_) (fun _=>?_))<;>(conv=>whnf)))|(refine sxCX ?_;intro A B hA hB;conv=>whnf)|((with_reducible first|refine NIf.dec (fun _=>?_) (fun _=>?_)|refine NIf.both (fun _=>?_) (fun _=>?_))<;>(conv=>whnf))|((intro _;skip)<;>(conv=>whnf))))
   ·rw [← isj ja ha3] at k2
    refine ⟨ja,_,Ga,ja,?_,List.getElem?_eq_getElem ha3,rfl,hGa,MemFits.pre 2 rfl⟩
    rw [hs1,if_neg (by rw [show Ps.is (l.map Lx.b) ja Ps.wElse=false from k2];decide)]
   rw [← isj ja ha3] at k2
   rw [if_pos (show Ps.is (l.map Lx.b) ja Ps.wElse=true from k2)] at hs1
   have hja:=nxj ja ha3 _ k2
   have cs2:=hst Ga hGa (ja+1) (by omega) hja
   generalize hq2:stp (ja+1)=sq2 at *
   unfold Ps.pB at cs2
   refine fV (α:=Po.T × Nat × Heap × Value × Value × Value) (fun (d,jd,Gd,pd,ud,w3)=>sq2 = .ok d jd∧ja+1≤jd∧jd<l.length∧Ga.le Gd∧Po.At Gd d pd ud∧SlOk w3 2) (fun (d,jd,Gd,pd,ud,w3)=>List.replicate 67 .k)
    (fun (d,jd,Gd,pd,ud,w3)=>[.set (hpB Gd),.set (Ps.pB b v l.length jd),.k,.set ⟨⟨b2,0,none⟩,[.int .i64 5,.int .i64 c.k,.int .i64 c.f,.int .i64 c.v,.hs u c.l.length,.int .i64 0,.int .i64 0,.sl 4 w3 2],.var 71⟩,.set ⟨addrOf w3,Po.psC [⟨a,pa,ua⟩,⟨d,pd,ud⟩],.row w3 71 8 2⟩])
    (fun ch m=>∃ ja xa Ge ka,sq2 = .bad ja∧l[ja]?=some xa∧ch=Ps.wrong xa.at_∧Ga.le Ge∧MemFits m [hpB Ge,Ps.pB b v l.length ka]) ?_ (fun ch sl' m' hq=>?_) ?_
   ·repeat' first|(intro K Kp hK hP;(with_reducible refine gCX ?_);(refine cX [0,1] cs2 rfl rfl ?_ ?_;((rintro _ _ ⟨d,jd,Gd,pd,ud,hd1,hd2,hd3,hd4,hd5,rfl,rfl⟩)<;>refine ⟨rfl,_,rfl,?_⟩);rotate_right;((rintro _ _ ⟨jd,xd,Gd,kd,hd1,hd2,rfl,hd4,rfl⟩)<;>refine ⟨rfl,?_⟩);all_goals (conv=>whnf)))|(refine rE ?_;(try clear hP hK Kp K);try clear hK K)|refine sxW ?_ ?_<;>intro _|refine rD ?_ ?_|(intro K Kp hK hP _;conv=>whnf)|(intro K hK _;conv=>whnf)
    all_goals try exact ⟨jd,xd,Gd,kd,hd1,hd2,rfl,hd4,MemFits.pre 2 rfl⟩
    all_goals rename_i b3 w4
    all_goals refine mA fun ⟨W0,hW0⟩=>⟨(d,jd,Gd,pd,ud,w4),⟨hd1,hd2,hd3,hd4,hd5,(hW0.row (.tail _ (.tail _ (.tail _ (.tail _ (.head _)))))).1⟩,?_,by refine (MemFits.pick (m':=[hpB Gd,Ps.pB b v l.length jd,_,_,_]) [0,1,2,3,4] (by decide) rfl).trans ?_;exact MemFits.congr rfl⟩
    all_goals exact aC
   ·obtain ⟨jd,xd,Gd,kd,g1,g2,rfl,g4,g5⟩:=hq
    repeat' first|(refine ai ?_;(try clear hP hK Kp K);try clear hK K)|refine sxW ?_ ?_<;>intro _|(intro K Kp hK hP _;conv=>whnf)|(intro K hK _;conv=>whnf)
    all_goals exact ⟨jd,xd,Gd,kd,by rw [hs1,g1],g2,rfl,hGa.trans g4,g5⟩
   (intro ⟨d,jd,Gd,pd,ud,w3⟩ ⟨hd1,hd2,hd3,hd4,hd5,hd6⟩;intro K hK;(conv=>whnf);refine hK _ _ ?_;clear hK K)
   try dsimp only at hd1 hd2 hd3 hd4 hd5 hd6
   rw [hd1] at hs1
   dsimp only at hs1
   have hGd:=hGa.trans hd4
   have hcs:denL (Po.psC [(⟨a,pa,ua⟩:Po.L),⟨d,pd,ud⟩])=[(⟨a,pa,ua⟩:Po.L),⟨d,pd,ud⟩].flatMap Po.psV:=Po.psC_den _
   have hrow:=aJ (F:=Gd) (sz:=8) (enc:=Po.psV) (l:=[(⟨a,pa,ua⟩:Po.L),⟨d,pd,ud⟩]) hd6 hcs (fun x _=>rfl)
   have hat:Po.At (addF Gd (addrOf w3) (denL (Po.psC [(⟨a,pa,ua⟩:Po.L),⟨d,pd,ud⟩]))) (.mk 5 c 0 0 [a,d]) u w3:=⟨Pd.Row.mono ((ha4.trans hd4).trans addF.old) h5,Po.row_of hrow fun y hy=>by
    rcases List.mem_cons.1 hy with rfl | hy
    ·exact Po.At.mono (hd4.trans addF.old) ha5
    ·rw [List.mem_singleton.1 hy];exact Po.At.mono addF.old hd5⟩
   repeat' first|(refine ai ?_;(try clear hP hK Kp K);try clear hK K)|refine sxW ?_ ?_<;>intro _|(intro K Kp hK hP _;conv=>whnf)|(intro K hK _;conv=>whnf)
   all_goals refine ⟨_,jd,_,u,w3,hs1,by omega,hd3,hGd.trans addF.old,hat,rfl,(MemFits.pick (m':=[hpB Gd,⟨addrOf w3,Po.psC [(⟨a,pa,ua⟩:Po.L),⟨d,pd,ud⟩],.row w3 71 8 2⟩,Ps.pB b v l.length jd]) [0,4,1] (by decide) rfl).trans (MemFits.freeze (m:=[Ps.pB b v l.length jd]))⟩
  | false =>
  rw [if_neg (by decide)] at c4 hspec
  cases q5 with
  | true =>
   rw [if_pos rfl] at c5 hspec
   have cp:=hip (m5 rfl) F b hv
   generalize Ps.rows (l.map Lx.b) (Ps.step (l.map Lx.b) n) (i+1)=qq at *
   unfold Ps.pB at cp
   repeat' first|(intro K Kp hK hP;(with_reducible refine gCX ?_);first|(refine cX [0,1] cp rfl rfl ?_ ?_;((rintro _ _ ⟨p,j,G,pu,u,h1,h2,h3,h4,h5,rfl,rfl⟩)<;>refine ⟨rfl,_,rfl,?_⟩);rotate_right;((rintro _ _ ⟨j,x,G,k,h1,h2,rfl,h4,rfl⟩)<;>refine ⟨rfl,?_⟩);all_goals (conv=>whnf))|(refine cX [0,1] (cm G h4 j h3 [41]) rfl rfl ?_ ?_;((rintro _ _ ⟨k1,rfl,rfl⟩)<;>refine ⟨rfl,_,rfl,?_⟩);rotate_right;((rintro _ _ ⟨k1,rfl,rfl⟩)<;>refine ⟨rfl,?_⟩);all_goals (conv=>whnf))|(refine aG.of ?_;first|refine cS [0,1] c1 ?_|refine cS [0,1] c2 ?_|refine cS [0,1] c3 ?_|refine cS [0,1] c4 ?_|refine cS [0,1] c5 ?_))|(refine ai ?_;(try clear hP hK Kp K);try clear hK K)|refine sxW ?_ ?_<;>intro _|(intro K Kp hK hP _;conv=>whnf)|(intro K hK _;conv=>whnf)
   ·refine ⟨j,x,G,k,?_,h2,rfl,h4,MemFits.pre 2 rfl⟩
    rw [hspec,h1]
    rfl
   ·refine ⟨j,_,G,j,?_,List.getElem?_eq_getElem h3,rfl,h4,MemFits.pre 2 rfl⟩
    rw [← isj j h3] at k1
    rw [hspec,h1]
    exact if_neg (by rw [show Ps.is (l.map Lx.b) j Ps.wShut=false from k1];decide)
   ·rw [← isj j h3] at k1
    refine ⟨p,j+1,G,pu,u,?_,by omega,nxj j h3 _ k1,h4,h5,rfl,MemFits.pre 2 rfl⟩
    rw [hspec,h1]
    exact if_pos k1
  | false =>
   rw [if_neg (by decide)] at c5 hspec
   have cnum:=fun j (hj:j<l.length)=>gj F v l hv hn b (List.getElem?_eq_getElem hj)
   have tkj:=fun j (hj:j<l.length)=>Ps.tk_b (List.getElem?_eq_getElem hj)
   unfold Ps.pB at cnum
   rcases hfb with ⟨hq,hf⟩ | ⟨f,hq,hf,h1⟩
   ·rw [hq] at cf
    rw [Ps.assign_none hf] at hspec
    repeat' first|(intro K Kp hK hP;(with_reducible refine gCX ?_);first|(refine cX [0,1] cfl rfl rfl ?_ ?_;((rintro _ _ ⟨⟩)<;>refine ⟨rfl,_,rfl,?_⟩);rotate_right;((rintro _ _ ⟨rfl,rfl⟩)<;>refine ⟨rfl,?_⟩);all_goals (conv=>whnf))|(refine aG.of ?_;first|refine cS [0,1] c1 ?_|refine cS [0,1] c2 ?_|refine cS [0,1] c3 ?_|refine cS [0,1] c4 ?_|refine cS [0,1] c5 ?_|refine cS [0,1] cf ?_))|(refine ai ?_;(try clear hP hK Kp K);try clear hK K)|refine sxW ?_ ?_<;>intro _|(intro K Kp hK hP _;conv=>whnf)|(intro K hK _;conv=>whnf)
    all_goals exact ⟨i,_,F,i,hspec,hx,rfl,F.le_refl,MemFits.pre 2 rfl⟩
   ·rw [hq,if_pos (by omega)] at cf
    rw [Ps.assign_some hf] at hspec
    have hf6:f≤6:=by
     have:=(List.findIdx?_eq_some_iff_getElem.1 (show (Ps.words.take 5).findIdx? _=some f from by
      unfold Ps.field at hf
      split at hf
      ·exact hf
      ·cases hf)).1
     rw [List.length_take] at this
     omega
    have c6:=cm F F.le_refl (i+1) h1 [58,61]
    have c7:=fun h=>cnum (i+2) h
    repeat' first|(intro K Kp hK hP;(with_reducible refine gCX ?_);first|(refine cX [0,1] c6 rfl rfl ?_ ?_;((rintro _ _ ⟨k1,rfl,rfl⟩)<;>refine ⟨rfl,_,rfl,?_⟩);rotate_right;((rintro _ _ ⟨k1,rfl,rfl⟩)<;>refine ⟨rfl,?_⟩);all_goals (conv=>whnf))|(refine cX [0,1] (c7 (nxj (i+1) h1 [58,61] ((isj (i+1) h1 [58,61]).trans k1))) rfl rfl ?_ ?_;((rintro _ _ ⟨k2,rfl,rfl⟩)<;>refine ⟨rfl,_,rfl,?_⟩);rotate_right;((rintro _ _ ⟨k2,rfl,rfl⟩)<;>refine ⟨rfl,?_⟩);all_goals (conv=>whnf))|(refine aG.of ?_;first|refine cS [0,1] c1 ?_|refine cS [0,1] c2 ?_|refine cS [0,1] c3 ?_|refine cS [0,1] c4 ?_|refine cS [0,1] c5 ?_|refine cS [0,1] cf ?_))|(refine ai ?_;(try clear hP hK Kp K);try clear hK K)|refine sxW ?_ ?_<;>intro _|(intro K Kp hK hP _;conv=>whnf)|(intro K hK _;conv=>whnf)
    all_goals first | (exfalso;omega) | skip
    ·refine ⟨i+1,_,F,i+1,?_,List.getElem?_eq_getElem h1,rfl,F.le_refl,MemFits.pre 2 rfl⟩
     rw [← isj (i+1) h1] at k1
     rw [hspec,if_neg (by rw [show Ps.is (l.map Lx.b) (i+1) Ps.wSet=false from k1];decide)]
    ·have h2:=nxj (i+1) h1 [58,61] ((isj (i+1) h1 [58,61]).trans k1)
     refine ⟨i+2,_,F,i+2,?_,List.getElem?_eq_getElem h2,rfl,F.le_refl,MemFits.pre 2 rfl⟩
     rw [← isj (i+1) h1] at k1
     rw [hspec,if_pos (show Ps.is (l.map Lx.b) (i+1) Ps.wSet=true from k1),tkj (i+2) h2,if_neg (show ¬(Lx.b (l[i+2]'h2)).k=2 from k2)]
    ·have h2:=nxj (i+1) h1 [58,61] ((isj (i+1) h1 [58,61]).trans k1)
     refine ⟨.mk 2 Ps.none26 f (l[i+2]'h2).n [],i+3,F,.slice none 0 0,.slice none 0 0,?_,by omega,hl.end_ (i+2) _ (List.getElem?_eq_getElem h2) (by rw [k2];decide),F.le_refl,⟨aH.nil,aH.nil⟩,rfl,MemFits.pre 2 rfl⟩
     rw [← isj (i+1) h1] at k1
     rw [hspec,if_pos (show Ps.is (l.map Lx.b) (i+1) Ps.wSet=true from k1),tkj (i+2) h2,if_pos (show (Lx.b (l[i+2]'h2)).k=2 from k2)]
     rfl
end Go.Proofs.YtmehinfgdcmmjaaGreat
