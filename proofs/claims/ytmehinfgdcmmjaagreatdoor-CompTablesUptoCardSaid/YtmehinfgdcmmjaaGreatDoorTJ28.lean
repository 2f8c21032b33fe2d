/- A part of the proof. -/
import Derived.Test.YtmehinfgdcmmjaaGreatDoorTPo3
import Derived.Test.YtmehinfgdcmmjaaGreatDoorTJ22
namespace Go.Proofs.YtmehinfgdcmmjaaGreatDoor
open Go.Sx
set_option maxRecDepth 20000
set_option linter.unusedSimpArgs false
set_option linter.unusedVariables false
set_option maxHeartbeats 4000000
section
variable (F:Heap)
theorem pD (pk pf pv:Int) (pl:List Pd.T) (f v:Int) (l:List Po.T) (pu u:Value) (tp:Int) (nb rb:Bool) (htp:Pd.top f=tp) (hnb:Pd.same (.mk pk pf pv pl) Po.noneP=nb) (hrb:Pd.right (.mk pk pf pv pl)=rb) (hu:Po.Row F u l) (hok:SlOk u l.length) (hpok:SlOk pu pl.length) (hln:l.length≤4611686018427387904)
  (ih:∀ x∈l,∀ pA A,Po.At F x pA A→Qz Tryz.prog 18 [.agg (Po.cs x pA A)] [hpB F] fun r m=>r = .bool (Po.fits x)∧m=[hpB F])
  (ct:Qz Tryz.prog 45 [.int .i64 f] [] fun r _=>r = .int .i64 tp)
  (cr:Qz Tryz.prog 43 [.agg [.int .i64 pk,.int .i64 pf,.int .i64 pv,.hs pu pl.length]] [hpB F] fun r m=>r = .bool rb∧m=[hpB F])
  (cn:Qz Tryz.prog 44 [.agg [.int .i64 pk,.int .i64 pf,.int .i64 pv,.hs pu pl.length],.agg [.int .i64 0,.int .i64 0,.int .i64 0,.hs (.slice none 0 0) 0]] [hpB F] fun r m=>r = .bool nb∧m=[hpB F]) :
  Qz Tryz.prog 18 [.agg [.int .i64 2,.int .i64 pk,.int .i64 pf,.int .i64 pv,.hs pu pl.length,.int .i64 f,.int .i64 v,.hs u l.length]] [hpB F] fun r m=>r = .bool (Po.shape 2 (.mk pk pf pv pl) f v l.length&&Po.fitsL l)∧Qw m [hpB F]:=by
 have hfl:=Po.fitsL_iff l
 have hsh:Po.shape 2 (.mk pk pf pv pl) f v l.length=decide ((2:Int)=1∧rb=true∧(f=0∧v=0)∧l.length=0∨(2:Int)=2∧nb=true∧(0≤f∧f≤4)∧(0≤v∧v≤tp)∧l.length=0∨((2:Int)=3∨(2:Int)=4)∧nb=true∧(f=0∧v=0)∧2≤l.length∧l.length≤8∨(2:Int)=5∧rb=true∧(f=0∧v=0)∧l.length=2):=by rw [← htp,← hnb,← hrb];rfl
 clear htp hnb hrb
 refine aB Tryz.func18 rfl (by decide) ?_
 cases nb
 ·rw [show Po.shape 2 (.mk pk pf pv pl) f v l.length=false by rw [hsh];exact decide_eq_false (fun h=>by
   rcases h with ⟨a1,a2,a3⟩ | ⟨a1,a2,a3⟩ | ⟨a1,a2,a3⟩ | ⟨a1,a2,a3⟩<;>first | (cases a2;done) | omega)]
  clear hsh hfl ih
  rw [Bool.false_and]
  by_cases hq0:(0≤f∧f≤4)∧(0≤v∧v≤tp)
  iterate 2
   ·repeat' first|((try intro K hK);(with_reducible refine gC ?_);first|refine cS [0] cr ?_|refine cS [0] cn ?_|refine cP ct ?_)|((first|intro A B hA hB|intro K hK|skip);first|((with_reducible refine NIf.yes ?s ?_);(case s=>simp ;done);conv=>whnf)|((with_reducible refine NIf.no ?s ?_);(case s=>simp ;done);conv=>whnf))|(refine aJ [] ?_;(try clear hK K);try clear hA hB A B)|refine sxW ?_ ?_<;>intro _|refine aK ?_ ?_|(intro K hK _;conv=>whnf)
    all_goals first
     | exact ⟨rfl,Qw.pre 1 rfl⟩
     | (exfalso;omega)
 ·by_cases hq:(0≤f∧f≤4)∧(0≤v∧v≤tp)∧l.length=0
  ·rw [show Po.shape 2 (.mk pk pf pv pl) f v l.length=true by rw [hsh];exact decide_eq_true (.inr (.inl ⟨rfl,rfl,hq.1,hq.2.1,hq.2.2⟩))]
   clear hsh
   rw [Bool.true_and]
   repeat' first|((try intro K hK);(with_reducible refine gC ?_);first|refine cS [0] cr ?_|refine cS [0] cn ?_|refine cP ct ?_)|((first|intro A B hA hB|intro K hK|skip);first|((with_reducible refine NIf.yes ?s ?_);(case s=>simp ;done);conv=>whnf)|((with_reducible refine NIf.no ?s ?_);(case s=>simp ;done);conv=>whnf))|(refine aJ [] ?_;(try clear hK K);try clear hA hB A B)|refine sxW ?_ ?_<;>intro _|refine aK ?_ ?_|(intro K hK _;conv=>whnf)
   all_goals try (exfalso;omega)
   all_goals
    refine aE (α:=Nat) (fun i=>i≤l.length∧∀ (j:Nat) (x:Po.T),j<i→l[j]?=some x→Po.fits x=true) (fun i=>[.k,.k,.d,.k,.k,.set (.int .i64 i),.k,.k,.k,.k,.k,.k,.k,.k,.k,.k,.k,.k,.k,.k,.k,.k,.k,.k,.k,.k,.k,.k,.k,.k,.k,.k,.k,.k,.k,.k,.k,.k,.k,.k,.k,.k,.k,.k,.k,.k,.k,.k,.k,.k,.k,.k,.k,.k,.k,.k,.k,.k,.k,.k,.k,.k,.k,.k,.k,.k,.k,.k,.k,.k,.k,.k,.k,.k,.k,.k,.k,.k,.k,.k,.k,.k,.k,.k,.k,.k,.k,.k,.k,.k,.k,.k,.k,.k,.k,.k,.k,.k,.k,.k,.k,.k,.k,.k,.k,.k,.k,.k,.k,.k,.k,.k,.k,.k,.k,.k,.k,.k,.d,.d,.d,.d,.d,.d,.d,.d,.d,.d,.d,.d]) (fun _=>[]) (fun i=>l.length - i) 0 ⟨Nat.zero_le _,fun j x hj=>absurd hj (Nat.not_lt_zero _)⟩ ?_ (Qw.eq rfl) ?_
    ·exact aD
    (intro i ⟨hi,hgone⟩;intro K hK;(conv=>whnf);refine hK _ _ ?_;clear hK K)
    by_cases hlt:i<l.length
    ·have hx:l[i]?=some l[i]:=List.getElem?_eq_getElem hlt
     obtain ⟨pA,pcap,A,cap,hA,c0,c1,c2,c3,c4,c5,c6,c7⟩:=hu.get hx
     have hAo:=hA.l.ok
     have hAp:=hA.p.ok
     have hmem:=List.mem_of_getElem? hx
     have c:=ih _ hmem _ _ hA
     clear ih
     have hbad:Po.fits l[i]=false→Po.fitsL l=false:=fun hb=>by
      cases h:Po.fitsL l with
      | false=>rfl
      | true=>have:=hfl.1 h _ hmem;rw [hb] at this;cases this
     have hgood0:Po.fits l[i]=true→∀ (j:Nat) (x:Po.T),j<i+1→l[j]?=some x→Po.fits x=true:=fun hg j y hj hy=>by
      by_cases e:j=i
      ·subst e
       rw [hx] at hy
       injection hy with hy
       rw [← hy];exact hg
      ·exact hgone j y (by omega) hy
     clear hgone hfl
     cases hq:Po.fits l[i] with
     | true =>
      rw [hq] at c
      have hgood:=hgood0 hq
      clear hbad hq hgood0
      generalize l[i]=y at *
      obtain ⟨yk,⟨ypk,ypf,ypv,ypl⟩,yf,yv,yl⟩:=y
      simp only [Po.cs,Po.T.k,Po.T.p,Po.T.f,Po.T.v,Po.T.l,Pd.T.k,Pd.T.f,Pd.T.v,Pd.T.l] at c c0 c1 c2 c3 c4 c5 c6 c7 hAo hAp
      repeat' first|(intro K hK;(with_reducible refine gC ?_);refine cS [0] c ?_)|(refine sxZ ?_;try clear hK K)|refine sxW ?_ ?_<;>intro _|(intro K hK _;conv=>whnf)
      refine aC (i+1) ⟨hlt,hgood⟩ (by omega) ?_ (Qw.eq rfl)
      exact aD
     | false =>
      rw [hq] at c
      rw [hbad hq]
      clear hbad hgood0 hq
      generalize l[i]=y at *
      obtain ⟨yk,⟨ypk,ypf,ypv,ypl⟩,yf,yv,yl⟩:=y
      simp only [Po.cs,Po.T.k,Po.T.p,Po.T.f,Po.T.v,Po.T.l,Pd.T.k,Pd.T.f,Pd.T.v,Pd.T.l] at c c0 c1 c2 c3 c4 c5 c6 c7 hAo hAp
      repeat' first|(intro K hK;(with_reducible refine gC ?_);refine cS [0] c ?_)|(refine sxZ ?_;try clear hK K)|refine sxW ?_ ?_<;>intro _|(intro K hK _;conv=>whnf)
      all_goals exact ⟨rfl,Qw.pre 1 rfl⟩
    ·have hyl:Po.fitsL l=true:=hfl.2 fun x hx=>by
      obtain ⟨j,hj,e⟩:=List.getElem_of_mem hx
      exact hgone j x (by omega) (by rw [← e];exact List.getElem?_eq_getElem hj)
     rw [hyl]
     clear ih hfl hgone
     repeat' first|(refine sxZ ?_;try clear hK K)|refine sxW ?_ ?_<;>intro _|(intro K hK _;conv=>whnf)
     all_goals exact ⟨rfl,Qw.pre 1 rfl⟩
  ·rw [show Po.shape 2 (.mk pk pf pv pl) f v l.length=false by rw [hsh];exact decide_eq_false (fun h=>by
    rcases h with ⟨a1,a2,a3⟩ | ⟨a1,a2,a3⟩ | ⟨a1,a2,a3⟩ | ⟨a1,a2,a3⟩<;>first | omega | (clear a2;exact hq (by omega)))]
   clear hsh hfl ih
   rw [Bool.false_and]
   repeat' first|((try intro K hK);(with_reducible refine gC ?_);first|refine cS [0] cr ?_|refine cS [0] cn ?_|refine cP ct ?_)|((first|intro A B hA hB|intro K hK|skip);first|((with_reducible refine NIf.yes ?s ?_);(case s=>simp ;done);conv=>whnf)|((with_reducible refine NIf.no ?s ?_);(case s=>simp ;done);conv=>whnf))|(refine aJ [] ?_;(try clear hK K);try clear hA hB A B)|refine sxW ?_ ?_<;>intro _|refine aK ?_ ?_|(intro K hK _;conv=>whnf)
   all_goals first
    | exact ⟨rfl,Qw.pre 1 rfl⟩
    | (exfalso;omega)
end
end Go.Proofs.YtmehinfgdcmmjaaGreatDoor
namespace Go.Sx
theorem bF.fits {P:Program} {g:FuncId} {args:List AV} {m:List Blk} {u:FrameMode} {K K':FrameMode→List Blk→Prop} (h:bF P g args m u K) (hk:∀ u' m',K u' m'→∃ m'',Qw m' m''∧K' u' m''):bF P g args m u K':=by
 unfold bF at h ⊢
 refine ⟨h.1,fun w hm=>(h.2 w hm).mono fun e u' w' hq=>?_⟩
 obtain ⟨m',h1,rfl,h3,h4,h5⟩:=hq
 obtain ⟨m'',h6,h7⟩:=hk u' m' h1
 exact ⟨m'',h7,rfl,(h6 w' h3).1,h4,fun b hb=>h5.1 b ((h6 w' h3).2.1 b hb),fun b hb=>h5.2 b ((h6 w' h3).2.2 b hb)⟩
end Go.Sx
namespace Go.Proofs.YtmehinfgdcmmjaaGreatDoor
open Go.Sx
set_option maxRecDepth 20000
set_option linter.unusedSimpArgs false
set_option linter.unusedVariables false
set_option maxHeartbeats 4000000
theorem Ps.good_res {tx:List UInt8} {L:List (Lx.B × List UInt8)} (hl:L.length≤500):Ps.Good (Lx.res tx L):=by
 have hlen:(Lx.res tx L).length=L.length+1:=by simp [Lx.res]
 refine ⟨by omega,fun i x hx hk=>?_⟩
 have hi:=(List.getElem?_eq_some_iff.1 hx).1
 rcases Nat.lt_or_ge i L.length with h | h
 ·omega
 ·obtain rfl:i=L.length:=by omega
  unfold Lx.res at hx
  rw [List.getElem?_append_right (by simp),List.length_map,Nat.sub_self] at hx
  injection hx with hx
  subst hx
  exact (hk rfl).elim
theorem mV (g:FuncId) (tx:List UInt8) (hs:tx.length≤4000) (L:List (Lx.B × List UInt8)) (hL:Lx.toks tx=some L) (hl:L.length≤500) (q:Ps.R Po.T) (hg:∀ v,Ps.P27 v (Lx.res tx L) g q 0) (F:Heap) :
  Qz Tryz.prog 87 [.str tx,.fn g [] []] [hpB F] fun r m =>
   (∃ x G pu u,Ps.whole ((Lx.res tx L).map Lx.b) q = .ok x 0∧F.le G∧Po.At G x pu u∧r = .tup [.agg (Po.cs x pu u),.int .i64 0,.int .i64 0]∧m=[hpB G]) ∨
   (∃ j y G,Ps.whole ((Lx.res tx L).map Lx.b) q = .bad j∧(Lx.res tx L)[j]?=some y∧F.le G∧r = .tup [.agg [.int .i64 0,.int .i64 0,.int .i64 0,.int .i64 0,.raw (.slice none 0 0),.int .i64 0,.int .i64 0,.raw (.slice none 0 0)],.int .i64 y.at_,.int .i64 10]∧m=[hpB G]):=by
 refine Qz.fits (K:=fun r m=>(∃ x G pu u,Ps.whole ((Lx.res tx L).map Lx.b) q = .ok x 0∧F.le G∧Po.At G x pu u∧r.den=(AV.tup [.agg (Po.cs x pu u),.int .i64 0,.int .i64 0]).den∧Qw m [hpB G]) ∨
   (∃ j y G,Ps.whole ((Lx.res tx L).map Lx.b) q = .bad j∧(Lx.res tx L)[j]?=some y∧F.le G∧r.den=(AV.tup [.agg [.int .i64 0,.int .i64 0,.int .i64 0,.int .i64 0,.raw (.slice none 0 0),.int .i64 0,.int .i64 0,.raw (.slice none 0 0)],.int .i64 y.at_,.int .i64 10]).den∧Qw m [hpB G])) ?_ fun r m' hq=>?_
 rotate_left
 ·rcases hq with ⟨x,G,pu,u,h1,h2,h3,h4,h5⟩ | ⟨j,y,G,h1,h2,h3,h4,h5⟩
  ·exact ⟨_,_,h4.symm,h5,.inl ⟨x,G,pu,u,h1,h2,h3,rfl,rfl⟩⟩
  ·exact ⟨_,_,h4.symm,h5,.inr ⟨j,y,G,h1,h2,h3,rfl,rfl⟩⟩
 have hgood:=Ps.good_res (tx:=tx) hl
 have hlen:(Lx.res tx L).length=L.length+1:=by simp [Lx.res]
 have clex:=oe F tx hs L hL hl
 generalize Lx.res tx L=l at *
 have hn:=hgood.few
 refine de Tryz.func87 rfl (by decide) (fun K hK=>?_)
 conv=>whnf
 refine hK _ ?_
 clear hK K
 refine eN (lV ?_)
 repeat' first|(refine ah ?_;(try clear hP hK Kp K);try clear hK K)|refine sxW ?_ ?_<;>intro _|(intro K Kp hK hP _;conv=>whnf)|(intro K hK _;conv=>whnf)
 refine eN (lV ?_)
 repeat' first|(intro K Kp hK hP;(with_reducible refine gCX ?_);(refine aH.of ?_;first|(refine cN [0] clex ?_;rintro _ _ ⟨F',v,hle,rfl,rfl,hrow⟩;refine cR ?_)))|(refine ah ?_;(try clear hP hK Kp K);try clear hK K)|refine sxW ?_ ?_<;>intro _|(intro K Kp hK hP _;conv=>whnf)|(intro K hK _;conv=>whnf)
 have hv2:Ps.Toks F' v l:=hrow
 have hok:=hv2.ok
 refine eN (lV ?_)
 repeat' first|((first|intro A B hA hB|intro K hK|skip);first|((with_reducible refine NIf.yes ?s ?_);(case s=>simp ;done);conv=>whnf)|((with_reducible refine NIf.no ?s ?_);(case s=>simp ;done);conv=>whnf))|(refine ah ?_;(try clear hP hK Kp K);(try clear hK K);try clear hA hB A B)|refine sxW ?_ ?_<;>intro _|(intro K Kp hK hP _;conv=>whnf)|(intro K hK _;conv=>whnf)
 refine eN (oX ?_)
 conv=>whnf
 refine lV ?_
 have cg:=fun b=>hg v F' b hv2
 have cn:=fun G (h:F'.le G) b j (hj:j<l.length)=>ec G v l (Ps.Toks.mono h hv2) hn b (List.getElem?_eq_getElem hj)
 have cf:=fun G (h:F'.le G) b j (hj:j<l.length)=>di G v l (Ps.Toks.mono h hv2) hn b (List.getElem?_eq_getElem hj)
 unfold Ps.pB at cg cn cf
 have cp:=fun b4 b5 b6 x0 x1 x2 x3 x4 x5 x6 x7 a e at_=>(ki b4 b5 b6 x0 x1 x2 x3 x4 x5 x6 x7 a e at_).fits (K':=fun u' m'=>settle u' = .returning∧m'=[⟨⟨b4,0,none⟩,[.int .i64 0,.int .i64 0,.int .i64 0,.int .i64 0,.raw (.slice none 0 0),.int .i64 0,.int .i64 0,.raw (.slice none 0 0)],.var 42⟩,⟨⟨b5,0,none⟩,[.int .i64 at_],.var 3⟩,⟨⟨b6,0,none⟩,[.int .i64 10],.var 34⟩]) fun u' m' ⟨h1,m2,h2⟩=>⟨_,by rw [h2];exact Qw.pre 3 rfl,h1,rfl⟩
 repeat' first|(intro K Kp hK hP;(with_reducible refine gCX ?_);first|(refine cX [0,4] (cg _) rfl rfl ?_ ?_;((rintro _ _ ⟨x,j,G,pu,u,h1,h2,h3,h4,h5,rfl,rfl⟩)<;>refine ⟨rfl,_,rfl,?_⟩);rotate_right;((rintro _ _ ⟨j,y,G,k,h1,h2,rfl,h4,rfl⟩)<;>refine ⟨rfl,?_⟩);all_goals (conv=>whnf))|(refine cX [0,4] (cf G h4 _ j h3) rfl rfl ?_ ?_;((rintro _ _ ⟨⟩)<;>refine ⟨rfl,_,rfl,?_⟩);rotate_right;((rintro _ _ ⟨rfl,rfl⟩)<;>refine ⟨rfl,?_⟩);all_goals (conv=>whnf))|(refine aH.of ?_;first|refine cS [0,4] (cn G h4 _ j h3) ?_))|(refine ah ?_;(try clear hP hK Kp K);try clear hK K)|refine sxW ?_ ?_<;>intro _|(intro K Kp hK hP _;conv=>whnf)|(intro K hK _;conv=>whnf)
 ·rename_i b4 b5 b6 b7
  refine gE (by intro h;cases h) rfl (bF.subw [1,2,3] [.ptr 0 ⟨b4,0,none⟩ 0,.ptr 1 ⟨b5,0,none⟩ 0,.ptr 2 ⟨b6,0,none⟩ 0] _ (cp b4 b5 b6 _ _ _ _ _ _ _ _ _ _ _) rfl (by decide) rfl fun u' bs g=>?_)
  obtain ⟨g1,rfl⟩:=g
  refine ⟨Nat.le_of_ble_eq_true rfl,?_⟩
  conv=>whnf
  refine ⟨g1,?_⟩
  conv=>whnf
  repeat' first|(refine ah ?_;(try clear hP hK Kp K);try clear hK K)|refine sxW ?_ ?_<;>intro _|(intro K Kp hK hP _;conv=>whnf)|(intro K hK _;conv=>whnf)
  all_goals exact .inr ⟨j,y,G,by rw [h1];rfl,h2,hle.trans h4,rfl,Qw.pre 1 rfl⟩
 ·rename_i b4 b5 b6 b7 hk
  refine gE (by intro h;cases h) rfl (bF.subw [1,2,3] [.ptr 0 ⟨b4,0,none⟩ 0,.ptr 1 ⟨b5,0,none⟩ 0,.ptr 2 ⟨b6,0,none⟩ 0] _ (kg b4 b5 b6 _ _ _ _ _ _ _ _ _ _) rfl (by decide) rfl fun u' bs g=>?_)
  obtain ⟨g1,rfl⟩:=g
  refine ⟨Nat.le_of_ble_eq_true rfl,?_⟩
  conv=>whnf
  refine ⟨g1,?_⟩
  conv=>whnf
  repeat' first|(refine ah ?_;(try clear hP hK Kp K);try clear hK K)|refine sxW ?_ ?_<;>intro _|(intro K Kp hK hP _;conv=>whnf)|(intro K hK _;conv=>whnf)
  all_goals exact .inl ⟨x,G,pu,u,by rw [h1];exact if_pos (by rw [Ps.tk_b (List.getElem?_eq_getElem h3)];exact hk),hle.trans h4,h5,rfl,Qw.pre 1 rfl⟩
 ·rename_i b4 b5 b6 b7 hk
  refine gE (by intro h;cases h) rfl (bF.subw [1,2,3] [.ptr 0 ⟨b4,0,none⟩ 0,.ptr 1 ⟨b5,0,none⟩ 0,.ptr 2 ⟨b6,0,none⟩ 0] _ (cp b4 b5 b6 _ _ _ _ _ _ _ _ _ _ _) rfl (by decide) rfl fun u' bs g=>?_)
  obtain ⟨g1,rfl⟩:=g
  refine ⟨Nat.le_of_ble_eq_true rfl,?_⟩
  conv=>whnf
  refine ⟨g1,?_⟩
  conv=>whnf
  repeat' first|(refine ah ?_;(try clear hP hK Kp K);try clear hK K)|refine sxW ?_ ?_<;>intro _|(intro K Kp hK hP _;conv=>whnf)|(intro K hK _;conv=>whnf)
  all_goals exact .inr ⟨j,_,G,by rw [h1];exact if_neg (by rw [Ps.tk_b (List.getElem?_eq_getElem h3)];exact hk),List.getElem?_eq_getElem h3,hle.trans h4,rfl,Qw.pre 1 rfl⟩
end Go.Proofs.YtmehinfgdcmmjaaGreatDoor
