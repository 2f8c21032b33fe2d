import Derived.Test.YtaolcaggdddkpaaGreatJ25
import Derived.Test.YtaolcaggdddkpaaGreatJ26
import Derived.Test.YtaolcaggdddkpaaGreatJ16
namespace Go.Proofs.YtaolcaggdddkpaaGreat
open Go.Sx
set_option maxRecDepth 20000
set_option linter.unusedSimpArgs false
set_option linter.unusedVariables false
set_option maxHeartbeats 4000000
def Po.C8 (G:Heap) (u:Value) (i:Nat) (k pk pf pv f v:Int) (pw w:Value):Prop:=G.c ((addrOf u).add (i*8)) (.int .i64 k)∧G.c ((addrOf u).add (i*8+1)) (.int .i64 pk)∧G.c ((addrOf u).add (i*8+2)) (.int .i64 pf)∧G.c ((addrOf u).add (i*8+3)) (.int .i64 pv)∧G.c ((addrOf u).add (i*8+4)) pw∧G.c ((addrOf u).add (i*8+5)) (.int .i64 f)∧G.c ((addrOf u).add (i*8+6)) (.int .i64 v)∧G.c ((addrOf u).add (i*8+7)) w
theorem refat27_out (F:Heap) (k:Int) (l:List Po.T) (pu u:Value) (sw:Int) (hkk:k=3∨k=4) (hl:l.length≤8) (hu:Po.Row F u l) (hpu:Pd.Row F pu [])
  (ih:∀ G,∀ y∈l,∀ pw w,Po.At G y pw w→NCall Tryz.prog 30 [.agg (Po.cs y pw w),.int .i64 sw] [hpB G] fun r m=>Po.Lays G (Po.spec sw y) r m) :
  NCall Tryz.prog 30 [.agg (Po.cs (.mk k Po.noneP 0 0 l) pu u),.int .i64 sw] [hpB F] fun r m=>Po.Out F 27 (Po.spec sw (.mk k Po.noneP 0 0 l)) r m:=by
 have hok:=hu.ok
 have hpok:=hpu.ok
 rw [Po.spec_mk,if_neg (fun h=>by omega),if_neg (fun h=>by omega)]
 rw [po_cs]
 unfold Po.noneP
 simp only [pd_cs,Pd.T.k,Pd.T.f,Pd.T.v,Pd.T.l] at *
 refine ncall_of Tryz.func30 rfl (by decide) ?_
 (repeat' (first|(with_reducible first|(refine hK _ _ ?_;clear hK K)|(refine hB ?_;clear hA hB A B)|(refine hK _ ?_;clear hK K))|((with_reducible refine z25 ?_);intro K hK;(conv=>whnf))|(with_reducible refine z0 ?_)|((first|((with_reducible refine NIf.decN ?s ?_);case s=>omega)|(with_reducible refine NN.a5 ?_)|((with_reducible refine NH.mk ?s ?_);case s=>(and_intros<;>first|with_reducible rfl|((with_reducible refine gOnes ?_);rfl)|((with_reducible refine gLen ?_);rfl))))<;>(conv=>whnf))|(with_reducible first|refine z3 ?_|refine z4 ?_|refine z5 ?_|refine z6 ?_)|((with_reducible refine z29 ?_);intro A B hA hB;(conv=>whnf))|(with_reducible first|refine z1 ?_|refine z2 ?_)|((with_reducible refine gF ?_);(refine z33 rfl ?_;intro K hK;(conv=>whnf)))|((intro _;skip)<;>(conv=>whnf))))
 all_goals first | (exfalso;omega) | skip
 all_goals
  refine st_auto (α:=Heap × Value × List Po.L) (fun (G,w,ps)=>F.le G∧ps.map (·.x)=(l.take ps.length).map (Po.spec sw)∧ps.length≤l.length∧∀ p∈ps,Po.At G p.x p.pu p.u) (fun (G,w,ps)=>[.keep,.keep,.keep,.keep,.keep,.keep,.keep,.set (.int .i64 ps.length),.keep,.keep,.keep,.keep,.keep,.keep,.keep,.keep,.keep,.keep,.keep,.keep,.keep,.keep,.keep,.keep,.keep,.keep,.keep,.keep,.keep,.keep,.keep,.keep,.keep,.keep,.keep,.keep,.keep,.keep,.keep,.keep,.keep,.keep,.keep,.keep,.keep,.keep,.keep,.keep,.keep,.keep,.keep,.keep,.keep,.keep,.keep,.keep,.keep,.keep,.keep,.keep,.keep,.keep,.keep,.drop,.drop,.drop,.drop,.drop,.drop,.drop,.drop,.drop,.drop,.drop,.drop,.drop,.drop,.drop,.drop,.drop,.drop,.drop,.keep])
   (fun (G,w,ps)=>[.set (hpB G),.keep,.keep,.cells [.int .i64 k,.int .i64 0,.int .i64 0,.int .i64 0,.raw (.slice .none 0 0),.int .i64 0,.int .i64 0,.sl 4 w ps.length],.set ⟨addrOf w,Po.psC ps,.row w 27 8 ps.length⟩]) (fun (G,w,ps)=>l.length - ps.length) (F,.slice .none 0 0,[]) ⟨F.le_refl,rfl,Nat.zero_le _,fun p hp=>by simp at hp⟩ ?_ ((MemFits.nilRow _ 27 8).trans (MemFits.congr rfl)) ?_
  ·repeat (first|exact FitsSl.nil|refine FitsSl.any ?_|refine FitsSl.cons (Fit1.int (by first | rfl | omega)) ?_|refine FitsSl.cons (Fit1.bool rfl) ?_|refine FitsSl.cons (Fit1.same (by intro h;cases h) (by with_reducible rfl)) ?_)
  (intro ⟨G,w,ps⟩ ⟨hle,hmap,hlen,hall⟩;intro K hK;(conv=>whnf);refine hK _ _ ?_;clear hK K)
  dsimp only
  generalize hk:ps.length=i at *
  by_cases hlt:i<l.length
  ·have hx:l[i]?=some l[i]:=List.getElem?_eq_getElem hlt
   obtain ⟨pA,pcap,A,cap,hA,c0,c1,c2,c3,c4,c5,c6,c7⟩:=(Po.Row.mono hle hu).get hx
   have hAo:=hA.l.ok
   have hAp:=hA.p.ok
   have hmem:=List.mem_of_getElem? hx
   have c:=ih G _ hmem _ _ hA
   have hnx:(l.take (i+1)).map (Po.spec sw)=(l.take i).map (Po.spec sw)++[Po.spec sw l[i]]:=by rw [List.take_add_one,hx,List.map_append];rfl
   clear ih
   generalize Po.spec sw l[i]=z at *
   generalize l[i]=y at *
   have hpl:=Po.psC_len ps
   have hpn:=Po.psC_next ps
   generalize hpc:Po.psC ps=pc at *
   obtain ⟨yk,⟨ypk,ypf,ypv,ypl⟩,yf,yv,yl⟩:=y
   obtain ⟨zk,⟨zpk,zpf,zpv,zpl⟩,zf,zv,zl⟩:=z
   simp only [Po.Lays,Po.cs,Po.T.k,Po.T.p,Po.T.f,Po.T.v,Po.T.l,Pd.T.k,Pd.T.f,Pd.T.v,Pd.T.l] at c c0 c1 c2 c3 c4 c5 c6 c7 hAo hAp
   (repeat' (first|(with_reducible first|(refine hK _ _ ?_;clear hK K)|(refine hA ?_;clear hA hB A B)|(refine hK _ ?_;clear hK K))|((with_reducible refine z25 ?_);intro K hK;(conv=>whnf))|(with_reducible refine z0 ?_)|((first|((with_reducible refine NV.i64 ?s ?_);case s=>omega)|((with_reducible refine NIf.decY ?s ?_);case s=>omega)|(with_reducible first|refine NN.cast ?_|refine NN.a5 ?_|refine NN.keep ?_)|((with_reducible refine NH.mk ?s ?_);case s=>(and_intros<;>first|with_reducible rfl|((with_reducible refine gOnes ?_);rfl)|((with_reducible refine gLen ?_);rfl)|omega))|((with_reducible refine NCall.isF 30 ?_);refine NCall.subw [0] _ _ (c) rfl (by decide) rfl ?_;rintro _ _ ⟨G',pw',w',hle2,hrow,rfl,rfl⟩;refine ⟨Nat.le_of_ble_eq_true rfl,_,rfl,?_⟩)|(with_reducible refine NLd.of (by with_reducible assumption) ?_))<;>(conv=>whnf))|((with_reducible refine gNO ?_);(first|(refine z36 rfl (by kernel_rfl) ?_;intro K hK;(conv=>whnf))|refine z38 rfl (by kernel_rfl) ?_|refine z39 rfl rfl (by kernel_rfl) (by intro h;cases h) ?_))|((with_reducible refine gNE ?_);(first|(refine z40 ?_ ?_;(intro K hK;(conv=>whnf)))|exact z42))|((with_reducible refine gX ?_);(first|refine z35 (by kernel_rfl) _ rfl ?_|(with_reducible first|refine z3 ?_|refine z4 ?_|refine z5 ?_|refine z6 ?_)|((with_reducible refine z29 ?_);intro A B hA hB;(conv=>whnf))))|(with_reducible first|refine z1 ?_|refine z2 ?_|refine z9 ?_)|((intro _;skip)<;>(conv=>whnf))))
   all_goals
    rename_i v9
    refine st_round (G',v9,ps++[⟨.mk zk (.mk zpk zpf zpv zpl) zf zv zl,pw',w'⟩]) ⟨hle.trans hle2,by rw [List.map_append,hmap,List.length_append,hk];exact hnx.symm,by rw [List.length_append,hk];exact hlt,fun x hx=>?_⟩ (by rw [List.length_append,hk];show l.length - (i+1)<l.length - i;omega) ?_ (MemFits.pre 5 ?_)
    ·rcases List.mem_append.1 hx with hx | hx
     ·exact Po.At.mono hle2 (hall x hx)
     ·rw [List.mem_singleton.1 hx];exact hrow
    ·simp only [List.length_append,hk]
     repeat (first|exact FitsSl.nil|refine FitsSl.any ?_|refine FitsSl.cons (Fit1.int (by first | rfl | omega)) ?_|refine FitsSl.cons (Fit1.bool rfl) ?_|refine FitsSl.cons (Fit1.same (by intro h;cases h) (by with_reducible rfl)) ?_)
    ·simp only [autoM,List.take,List.length_append,hk,hpn]
     rw [show i+[(⟨.mk zk (.mk zpk zpf zpv zpl) zf zv zl,pw',w'⟩:Po.L)].length=i+1 from rfl]
     rfl
  ·have hkl:i=l.length:=by omega
   subst hkl
   rw [List.take_length] at hmap
   clear ih
   (repeat' (first|(with_reducible first|(refine hK _ _ ?_;clear hK K)|(refine hB ?_;clear hA hB A B)|(refine hK _ ?_;clear hK K))|((with_reducible refine z25 ?_);intro K hK;(conv=>whnf))|(with_reducible refine z0 ?_)|((first|((with_reducible refine NIf.decN ?s ?_);case s=>omega)|(with_reducible refine NN.a5 ?_)|((with_reducible refine NH.mk ?s ?_);case s=>(and_intros<;>first|with_reducible rfl|((with_reducible refine gOnes ?_);rfl)|((with_reducible refine gLen ?_);rfl)|omega)))<;>(conv=>whnf))|(with_reducible first|refine z3 ?_|refine z4 ?_|refine z7 ?_|refine z8 ?_)|((with_reducible refine z29 ?_);intro A B hA hB;(conv=>whnf))|(with_reducible first|refine z1 ?_|refine z2 ?_|refine z10 ?_|refine z11 ?_|refine z19 ?_)|((with_reducible refine gR ?_);(refine z31 rfl ?_;intro K hK;(conv=>whnf)))))
   all_goals exact .inl ⟨G,.slice .none 0 0,w,ps,hle,hmap,hall,Pd.nilRow G,by simp only [Po.cs,Po.T.k,Po.T.p,Po.T.f,Po.T.v,Po.T.l,Pd.T.k,Pd.T.f,Pd.T.v,Pd.T.l,List.length_map];rfl,by rw [hk];exact MemFits.pick [0,4] (by decide) rfl⟩
theorem refat27_5 (F:Heap) (p:Pd.T) (a b:Po.T) (pu u:Value) (sw:Int) (hs:Pd.size p≤1000000000000) (hpf:Pd.fits p=true) (hu:Po.Row F u [a,b]) (hpu:Pd.Row F pu p.l)
  (ih:∀ G,∀ y∈[a,b],∀ pw w,Po.At G y pw w→NCall Tryz.prog 30 [.agg (Po.cs y pw w),.int .i64 sw] [hpB G] fun r m=>Po.Lays G (Po.spec sw y) r m) :
  NCall Tryz.prog 30 [.agg (Po.cs (.mk 5 p 0 0 [a,b]) pu u),.int .i64 sw] [hpB F] fun r m=>Po.Out F 27 (Po.spec sw (.mk 5 p 0 0 [a,b])) r m:=by
 have hok:=hu.ok
 have hpok:=hpu.ok
 have cp:=refcut26_c _ F p pu sw (Nat.le_refl _) hs hpf hpu
 have hq0:=Pd.fits_k (Pd.cut_fits sw p hpf)
 have hX1:(Pd.cut sw p).k≤2→Po.spec sw (.mk 5 p 0 0 [a,b])=([a,b].map (Po.spec sw))[((Pd.cut sw p).k - 1).toNat]?.getD Po.zero:=fun h2=>by rw [Po.spec_mk,if_pos ⟨rfl,h2⟩]
 have hX2:¬ ((Pd.cut sw p).k≤2)→Po.spec sw (.mk 5 p 0 0 [a,b]) = .mk 5 (Pd.cut sw p) 0 0 ([a,b].map (Po.spec sw)):=fun h=>by rw [Po.spec_mk,if_neg (fun h'=>h h'.2),if_pos (.inr rfl)]
 generalize Po.spec sw (.mk 5 p 0 0 [a,b])=X at *
 generalize Pd.cut sw p=q at *
 rw [po_cs]
 obtain ⟨apA,apc,aA,acap,hA,c0,c1,c2,c3,c4,c5,c6,c7⟩:=hu.get (i:=0) (x:=a) rfl
 obtain ⟨bpA,bpc,bA,bcap,hB,d0,d1,d2,d3,d4,d5,d6,d7⟩:=hu.get (i:=1) (x:=b) rfl
 have ca:=fun G (h:F.le G)=>ih G a (by simp) _ _ (Po.At.mono h hA)
 have cb:=fun G (h:F.le G)=>ih G b (by simp) _ _ (Po.At.mono h hB)
 have hAo:=hA.l.ok
 have hAp:=hA.p.ok
 have hBo:=hB.l.ok
 have hBp:=hB.p.ok
 clear ih hu
 have hmap:[a,b].map (Po.spec sw)=[Po.spec sw a,Po.spec sw b]:=rfl
 rw [hmap] at hX1 hX2
 clear hmap
 generalize Po.spec sw a=za at *
 generalize Po.spec sw b=zb at *
 obtain ⟨pk,pf,pv,pl⟩:=p
 obtain ⟨qk,qf,qv,ql⟩:=q
 obtain ⟨ak,⟨apk,apf,apv,apl⟩,af,av,al⟩:=a
 obtain ⟨bk,⟨bpk,bpf,bpv,bpl⟩,bf,bv,bl⟩:=b
 simp only [Pd.Lays,pd_cs,Po.cs,Po.T.k,Po.T.p,Po.T.f,Po.T.v,Po.T.l,Pd.T.k,Pd.T.f,Pd.T.v,Pd.T.l] at *
 have hA8:∀ G,F.le G→Po.C8 G u 0 ak apk apf apv af av (.slice apA apl.length apc) (.slice aA al.length acap):=fun G h=>⟨h.c _ _ c0,h.c _ _ c1,h.c _ _ c2,h.c _ _ c3,h.c _ _ c4,h.c _ _ c5,h.c _ _ c6,h.c _ _ c7⟩
 have hB8:∀ G,F.le G→Po.C8 G u 1 bk bpk bpf bpv bf bv (.slice bpA bpl.length bpc) (.slice bA bl.length bcap):=fun G h=>⟨h.c _ _ d0,h.c _ _ d1,h.c _ _ d2,h.c _ _ d3,h.c _ _ d4,h.c _ _ d5,h.c _ _ d6,h.c _ _ d7⟩
 have cp:=cp.mono (K':=fun r m=>∃ F' w,F.le F'∧Po.C8 F' u 0 ak apk apf apv af av (.slice apA apl.length apc) (.slice aA al.length acap)∧Po.C8 F' u 1 bk bpk bpf bpv bf bv (.slice bpA bpl.length bpc) (.slice bA bl.length bcap)∧Pd.Row F' w ql∧SlOk w ql.length∧r = .agg [.int .i64 qk,.int .i64 qf,.int .i64 qv,.hs w ql.length]∧m=[hpB F']) fun r m ⟨F',w,h1,h2,h3,h4⟩=>⟨F',w,h1,hA8 F' h1,hB8 F' h1,h2,h2.ok,h3,h4⟩
 have ca:=fun G h=>(ca G h).mono (K':=fun r m=>∃ F' pw w,G.le F'∧Po.C8 F' u 1 bk bpk bpf bpv bf bv (.slice bpA bpl.length bpc) (.slice bA bl.length bcap)∧Po.At F' za pw w∧SlOk pw za.p.l.length∧SlOk w za.l.length∧r = .agg (Po.cs za pw w)∧m=[hpB F']) fun r m ⟨F',pw,w,h1,h2,h3,h4⟩=>⟨F',pw,w,h1,hB8 F' (h.trans h1),h2,h2.p.ok,h2.l.ok,h3,h4⟩
 have cb:=fun G h=>(cb G h).mono (K':=fun r m=>∃ F' pw w,G.le F'∧Po.C8 F' u 0 ak apk apf apv af av (.slice apA apl.length apc) (.slice aA al.length acap)∧Po.At F' zb pw w∧SlOk pw zb.p.l.length∧SlOk w zb.l.length∧r = .agg (Po.cs zb pw w)∧m=[hpB F']) fun r m ⟨F',pw,w,h1,h2,h3,h4⟩=>⟨F',pw,w,h1,hA8 F' (h.trans h1),h2,h2.p.ok,h2.l.ok,h3,h4⟩
 clear c0 c1 c2 c3 c4 c5 c6 c7 d0 d1 d2 d3 d4 d5 d6 d7 hA8 hB8 hs hpf hA hB
 obtain ⟨ak',⟨apk',apf',apv',apl'⟩,af',av',al'⟩:=za
 obtain ⟨bk',⟨bpk',bpf',bpv',bpl'⟩,bf',bv',bl'⟩:=zb
 simp only [Po.cs,Po.T.k,Po.T.p,Po.T.f,Po.T.v,Po.T.l,Pd.T.k,Pd.T.f,Pd.T.v,Pd.T.l] at ca cb
 by_cases hq1:qk=1
 ·subst hq1
  have hX1:X=_:=hX1 (by decide)
  subst hX1
  refine ncall_of Tryz.func30 rfl (by decide) ?_
  (repeat' (first|(with_reducible first|(refine hK _ _ ?_;clear hK K)|(refine hA ?_;clear hA hB A B)|(refine hB ?_;clear hA hB A B)|(refine hK _ ?_;clear hK K))|((with_reducible refine z25 ?_);intro K hK;(conv=>whnf))|(with_reducible refine z0 ?_)|((first|((with_reducible refine NIf.decY ?s ?_);case s=>with_reducible rfl)|((with_reducible refine NIf.decN ?s ?_);case s=>omega)|(with_reducible first|refine NN.lit ?_|refine NN.a5 ?_|refine NN.a6 ?_)|((with_reducible refine NH.mk ?s ?_);case s=>(and_intros<;>first|with_reducible rfl|((with_reducible refine gOnes ?_);rfl)|((with_reducible refine gLen ?_);rfl)|omega|(simp only [List.length_append,List.length_cons,List.length_nil];omega)))|((with_reducible refine NCall.isF 61 ?_);refine NCall.subw [0] _ _ (cp) rfl (by decide) rfl ?_;rintro _ _ ⟨F1,pu1,hle1,⟨c0,c1,c2,c3,c4,c5,c6,c7⟩,hb8,hpu1,hpok1,rfl,rfl⟩;refine ⟨Nat.le_of_ble_eq_true rfl,_,rfl,?_⟩)|((with_reducible refine NCall.isF 30 ?_);refine NCall.subw [0] _ _ (ca F1 hle1) rfl (by decide) rfl ?_;rintro _ _ ⟨F2,pw2,w2,hle2,hb82,hat,hok2,hok3,rfl,rfl⟩;refine ⟨Nat.le_of_ble_eq_true rfl,_,rfl,?_⟩)|(with_reducible refine NLd.of (by with_reducible assumption) ?_))<;>(conv=>whnf))|(with_reducible first|refine z3 ?_|refine z4 ?_|refine z6 ?_|refine z8 ?_)|((with_reducible refine z29 ?_);intro A B hA hB;(conv=>whnf))|(with_reducible first|refine z1 ?_|refine z2 ?_|refine z12 ?_)|((with_reducible refine gR ?_);(refine z31 rfl ?_;intro K hK;(conv=>whnf)))|((with_reducible refine gF ?_);(refine z33 rfl ?_;intro K hK;(conv=>whnf)))|((intro _;skip)<;>(conv=>whnf))))
  all_goals exact .inr ⟨F2,pw2,w2,hle1.trans hle2,hat,rfl,MemFits.pre 1 rfl⟩
 by_cases hq2:qk=2
 ·subst hq2
  have hX1:X=_:=hX1 (by decide)
  subst hX1
  refine ncall_of Tryz.func30 rfl (by decide) ?_
  (repeat' (first|(with_reducible first|(refine hK _ _ ?_;clear hK K)|(refine hA ?_;clear hA hB A B)|(refine hB ?_;clear hA hB A B)|(refine hK _ ?_;clear hK K))|((with_reducible refine z25 ?_);intro K hK;(conv=>whnf))|(with_reducible refine z0 ?_)|((first|((with_reducible refine NIf.decY ?s ?_);case s=>with_reducible rfl)|((with_reducible refine NIf.decN ?s ?_);case s=>first|assumption|omega)|(with_reducible first|refine NN.lit ?_|refine NN.a5 ?_|refine NN.a6 ?_)|((with_reducible refine NH.mk ?s ?_);case s=>(and_intros<;>first|with_reducible rfl|((with_reducible refine gOnes ?_);rfl)|((with_reducible refine gLen ?_);rfl)|omega|(simp only [List.length_append,List.length_cons,List.length_nil];omega)))|((with_reducible refine NCall.isF 61 ?_);refine NCall.subw [0] _ _ (cp) rfl (by decide) rfl ?_;rintro _ _ ⟨F1,pu1,hle1,ha8,⟨c0,c1,c2,c3,c4,c5,c6,c7⟩,hpu1,hpok1,rfl,rfl⟩;refine ⟨Nat.le_of_ble_eq_true rfl,_,rfl,?_⟩)|((with_reducible refine NCall.isF 30 ?_);refine NCall.subw [0] _ _ (cb F1 hle1) rfl (by decide) rfl ?_;rintro _ _ ⟨F2,pw2,w2,hle2,hb82,hat,hok2,hok3,rfl,rfl⟩;refine ⟨Nat.le_of_ble_eq_true rfl,_,rfl,?_⟩)|(with_reducible refine NLd.of (by with_reducible assumption) ?_))<;>(conv=>whnf))|(with_reducible first|refine z3 ?_|refine z4 ?_|refine z6 ?_|refine z8 ?_)|((with_reducible refine z29 ?_);intro A B hA hB;(conv=>whnf))|(with_reducible first|refine z1 ?_|refine z2 ?_|refine z12 ?_)|((with_reducible refine gR ?_);(refine z31 rfl ?_;intro K hK;(conv=>whnf)))|((with_reducible refine gF ?_);(refine z33 rfl ?_;intro K hK;(conv=>whnf)))|((intro _;skip)<;>(conv=>whnf))))
  all_goals exact .inr ⟨F2,pw2,w2,hle1.trans hle2,hat,rfl,MemFits.pre 1 rfl⟩
 have hX2:=hX2 (by omega)
 subst hX2
 have ca:=fun G h=>NCall.fits (ca G h) (K':=fun r m=>∃ F' pw w,G.le F'∧Po.At F' (.mk ak' (.mk apk' apf' apv' apl') af' av' al') pw w∧SlOk pw apl'.length∧SlOk w al'.length∧r = .agg [.int .i64 ak',.int .i64 apk',.int .i64 apf',.int .i64 apv',.hs pw apl'.length,.int .i64 af',.int .i64 av',.hs w al'.length]∧m=[hpB G,hpB F']) fun r m ⟨F',pw,w,h1,h2,h3,h4,h5,h6,h7⟩=>⟨r,[hpB G,hpB F'],rfl,by rw [h7];exact MemFits.dup h1 [],F',pw,w,h1,h3,h4,h5,h6,rfl⟩
 have cb:=fun G h=>NCall.fits (cb G h) (K':=fun r m=>∃ F' pw w,G.le F'∧Po.At F' (.mk bk' (.mk bpk' bpf' bpv' bpl') bf' bv' bl') pw w∧SlOk pw bpl'.length∧SlOk w bl'.length∧r = .agg [.int .i64 bk',.int .i64 bpk',.int .i64 bpf',.int .i64 bpv',.hs pw bpl'.length,.int .i64 bf',.int .i64 bv',.hs w bl'.length]∧m=[hpB G,hpB F']) fun r m ⟨F',pw,w,h1,h2,h3,h4,h5,h6,h7⟩=>⟨r,[hpB G,hpB F'],rfl,by rw [h7];exact MemFits.dup h1 [],F',pw,w,h1,h3,h4,h5,h6,rfl⟩
 refine ncall_of Tryz.func30 rfl (by decide) ?_
 (repeat' (first|(with_reducible first|(refine hK _ _ ?_;clear hK K)|(refine hA ?_;clear hA hB A B)|(refine hB ?_;clear hA hB A B)|(refine hK _ ?_;clear hK K))|((with_reducible refine z25 ?_);intro K hK;(conv=>whnf))|(with_reducible refine z0 ?_)|((first|((with_reducible refine NIf.decY ?s ?_);case s=>with_reducible rfl)|((with_reducible refine NIf.decN ?s ?_);case s=>first|assumption|omega)|(with_reducible first|refine NN.lit ?_|refine NN.a5 ?_|refine NN.a6 ?_)|((with_reducible refine NH.mk ?s ?_);case s=>(and_intros<;>first|with_reducible rfl|((with_reducible refine gOnes ?_);rfl)|((with_reducible refine gLen ?_);rfl)|((with_reducible refine gKept ?_);exact rfl)|omega|(simp only [List.length_append,List.length_cons,List.length_nil];omega)|rfl))|((with_reducible refine NCall.isF 61 ?_);refine NCall.subw [0] _ _ (cp) rfl (by decide) rfl ?_;rintro _ _ ⟨F1,pu1,hle1,⟨c0,c1,c2,c3,c4,c5,c6,c7⟩,⟨d0,d1,d2,d3,d4,d5,d6,d7⟩,hpu1,hpok1,rfl,rfl⟩;refine ⟨Nat.le_of_ble_eq_true rfl,_,rfl,?_⟩)|((with_reducible refine NCall.isF 30 ?_);refine NCall.subw [0] _ _ (ca F1 hle1) rfl (by decide) rfl ?_;rintro _ _ ⟨F2,pw2,w2,hle2,hat,hok2,hok3,rfl,rfl⟩;refine ⟨Nat.le_of_ble_eq_true rfl,_,rfl,?_⟩)|((with_reducible refine NCall.isF 30 ?_);refine NCall.subw [0] _ _ (cb F1 hle1) rfl (by decide) rfl ?_;rintro _ _ ⟨F3,pw3,w3,hle3,hbt,hok4,hok5,rfl,rfl⟩;refine ⟨Nat.le_of_ble_eq_true rfl,_,rfl,?_⟩)|(with_reducible refine NLd.of (by with_reducible assumption) ?_))<;>(conv=>whnf))|(with_reducible refine st_ordSout ?_)|((with_reducible refine gNOK ?_);(first|(refine st_ordK1 rfl (by kernel_rfl) rfl ?_;intro K hK;(conv=>whnf))|refine st_ordK0 rfl (by kernel_rfl) ?_|refine st_ordKA rfl rfl (by kernel_rfl) (by intro h;cases h) ?_))|((with_reducible refine gNEK ?_);(first|(refine st_eachK ?_ ?_;(intro K hK;(conv=>whnf)))|exact st_eachK0))|((with_reducible refine gX ?_);(first|refine st_orderS [2] rfl rfl (by kernel_rfl) _ rfl ?_|(with_reducible first|refine z3 ?_|refine z4 ?_|refine z6 ?_|refine z8 ?_)|((with_reducible refine z29 ?_);intro A B hA hB;(conv=>whnf))))|(with_reducible first|refine z1 ?_|refine z2 ?_|refine z12 ?_)|((with_reducible refine gR ?_);(refine z31 rfl ?_;intro K hK;(conv=>whnf)))|((with_reducible refine gF ?_);(refine z33 rfl ?_;intro K hK;(conv=>whnf)))|((intro _;skip)<;>(conv=>whnf))))
 all_goals
  have hall:∀ p∈[(⟨.mk ak' (.mk apk' apf' apv' apl') af' av' al',pw2,w2⟩:Po.L),⟨.mk bk' (.mk bpk' bpf' bpv' bpl') bf' bv' bl',pw3,w3⟩],Po.At (joinF F2 F3) p.x p.pu p.u:=fun p hp=>by
   simp only [List.mem_cons,List.not_mem_nil,or_false] at hp
   rcases hp with rfl | rfl
   ·exact Po.At.mono joinF.l hat
   ·exact Po.At.mono joinF.r hbt
 all_goals first
  | exact .inl ⟨joinF F2 F3,pu1,_,[⟨.mk ak' (.mk apk' apf' apv' apl') af' av' al',pw2,w2⟩,⟨.mk bk' (.mk bpk' bpf' bpv' bpl') bf' bv' bl',pw3,w3⟩],(hle1.trans hle2).trans joinF.l,rfl,hall,Pd.Row.mono (hle2.trans joinF.l) hpu1,rfl,(MemFits.pick [4,5,6] (by decide) rfl).trans (MemFits.joinH F2 F3 _)⟩
  | exact .inl ⟨joinF F2 F3,pu1,_,[⟨.mk ak' (.mk apk' apf' apv' apl') af' av' al',pw2,w2⟩,⟨.mk bk' (.mk bpk' bpf' bpv' bpl') bf' bv' bl',pw3,w3⟩],(hle1.trans hle2).trans joinF.l,rfl,hall,Pd.Row.mono (hle2.trans joinF.l) hpu1,rfl,(MemFits.pick [5,4,6] (by decide) rfl).trans (MemFits.joinH F2 F3 _)⟩
theorem refat27_c:∀ (n:Nat) (F:Heap) (x:Po.T) (pu u:Value) (sw:Int),Po.tot x≤n→Po.tot x≤1000000000000→Po.fits x=true→Po.At F x pu u →
  NCall Tryz.prog 30 [.agg (Po.cs x pu u),.int .i64 sw] [hpB F] fun r m=>Po.Lays F (Po.spec sw x) r m
 | 0,F,x,pu,u,sw,hn,_,_,_=>absurd (Po.tot_pos x) (by omega)
 | n+1,F,⟨k,p,f,v,l⟩,pu,u,sw,hn,hs,hf,hx=>by
  refine Po.out_know (t:=27) ?_
  have hu:Po.Row F u l:=hx.l
  have hpu:Pd.Row F pu p.l:=hx.p
  have e2:=Po.tot_mk k p f v l
  obtain ⟨hsh,hfl⟩:=Po.fits_iff.1 hf
  have ih:∀ G,∀ y∈l,∀ pw w,Po.At G y pw w→NCall Tryz.prog 30 [.agg (Po.cs y pw w),.int .i64 sw] [hpB G] fun r m=>Po.Lays G (Po.spec sw y) r m:=fun G y hy pw w hw=>refat27_c n G y pw w sw (by have:=Po.tot_lt (k:=k) (q:=p) (f:=f) (v:=v) hy;omega) (by have:=Po.tot_lt (k:=k) (q:=p) (f:=f) (v:=v) hy;omega) (hfl y hy) hw
  rcases hsh with ⟨rfl,hr,⟨rfl,rfl⟩,hl⟩ | ⟨rfl,rfl,hf1,hv1,hl⟩ | ⟨hk,rfl,⟨rfl,rfl⟩,hl1,hl2⟩ | ⟨rfl,hr,⟨rfl,rfl⟩,hl⟩
  ·obtain rfl:=List.eq_nil_of_length_eq_zero hl
   have hpf:=Po.right_fits hr
   have cp:=refcut26_c _ F p pu sw (Nat.le_refl _) (by omega) hpf hpu
   rw [Po.spec_mk,if_neg (fun h=>by omega),if_pos (.inl rfl)]
   rw [po_cs]
   have hok:=hu.ok
   have hpok:=hpu.ok
   clear ih hf hx hu hpu hr hpf
   generalize Pd.cut sw p=q at *
   obtain ⟨pk,pf,pv,pl⟩:=p
   obtain ⟨qk,qf,qv,ql⟩:=q
   simp only [Pd.Lays,pd_cs,Pd.T.k,Pd.T.f,Pd.T.v,Pd.T.l] at *
   have cp:=cp.mono (K':=fun r m=>∃ F' w,F.le F'∧Pd.Row F' w ql∧SlOk w ql.length∧r = .agg [.int .i64 qk,.int .i64 qf,.int .i64 qv,.hs w ql.length]∧m=[hpB F']) fun r m ⟨F',w,h1,h2,h3,h4⟩=>⟨F',w,h1,h2,h2.ok,h3,h4⟩
   refine ncall_of Tryz.func30 rfl (by decide) ?_
   (repeat' (first|(with_reducible first|(refine hK _ _ ?_;clear hK K)|(refine hA ?_;clear hA hB A B)|(refine hK _ ?_;clear hK K))|((with_reducible refine z25 ?_);intro K hK;(conv=>whnf))|(with_reducible refine z0 ?_)|((first|((with_reducible refine NIf.decY ?s ?_);case s=>with_reducible rfl)|(with_reducible refine NN.a5 ?_)|((with_reducible refine NH.mk ?s ?_);case s=>(and_intros<;>first|with_reducible rfl|((with_reducible refine gOnes ?_);rfl)|((with_reducible refine gLen ?_);rfl)))|((with_reducible refine NCall.isF 61 ?_);refine NCall.subw [0] _ _ (cp) rfl (by decide) rfl ?_;rintro _ _ ⟨F1,pu1,hle1,hpu1,hpok1,rfl,rfl⟩;refine ⟨Nat.le_of_ble_eq_true rfl,_,rfl,?_⟩))<;>(conv=>whnf))|(with_reducible first|refine z3 ?_|refine z4 ?_|refine z8 ?_)|((with_reducible refine z29 ?_);intro A B hA hB;(conv=>whnf))|(with_reducible first|refine z1 ?_|refine z2 ?_|refine z12 ?_)|((with_reducible refine gR ?_);(refine z31 rfl ?_;intro K hK;(conv=>whnf)))|((with_reducible refine gF ?_);(refine z33 rfl ?_;intro K hK;(conv=>whnf)))|((intro _;skip)<;>(conv=>whnf))))
   all_goals exact .inr ⟨F1,pu1,.slice .none 0 0,hle1,⟨hpu1,Po.nilRow F1⟩,rfl,MemFits.pre 1 rfl⟩
  ·obtain rfl:=List.eq_nil_of_length_eq_zero hl
   rw [Po.spec_mk,if_neg (fun h=>by omega),if_neg (fun h=>by omega)]
   rw [po_cs]
   have hok:=hu.ok
   have hpok:=hpu.ok
   clear ih hf
   unfold Po.noneP at *
   simp only [pd_cs,Pd.T.k,Pd.T.f,Pd.T.v,Pd.T.l] at *
   refine ncall_of Tryz.func30 rfl (by decide) ?_
   (repeat' (first|(with_reducible first|(refine hK _ _ ?_;clear hK K)|(refine hA ?_;clear hA hB A B)|(refine hB ?_;clear hA hB A B)|(refine hK _ ?_;clear hK K))|((with_reducible refine z25 ?_);intro K hK;(conv=>whnf))|(with_reducible refine z0 ?_)|((first|((with_reducible refine NIf.decY ?s ?_);case s=>with_reducible rfl)|((with_reducible refine NIf.decN ?s ?_);case s=>omega)|(with_reducible refine NN.a5 ?_)|((with_reducible refine NH.mk ?s ?_);case s=>(and_intros<;>first|with_reducible rfl|((with_reducible refine gOnes ?_);rfl)|((with_reducible refine gLen ?_);rfl))))<;>(conv=>whnf))|(with_reducible first|refine z3 ?_|refine z4 ?_|refine z6 ?_|refine z8 ?_)|((with_reducible refine z29 ?_);intro A B hA hB;(conv=>whnf))|(with_reducible first|refine z1 ?_|refine z2 ?_|refine z12 ?_)|((with_reducible refine gR ?_);(refine z31 rfl ?_;intro K hK;(conv=>whnf)))|((with_reducible refine gF ?_);(refine z33 rfl ?_;intro K hK;(conv=>whnf)))|((intro _;skip)<;>(conv=>whnf))))
   all_goals exact .inr ⟨F,pu,u,F.le_refl,hx,rfl,MemFits.pre 1 rfl⟩
  ·exact refat27_out F k l pu u sw hk hl2 hu hpu ih
  ·match l,hl with
   | [a,b],_=>exact refat27_5 F p a b pu u sw (by omega) (Po.right_fits hr) hu hpu ih
end Go.Proofs.YtaolcaggdddkpaaGreat
