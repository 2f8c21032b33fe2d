import Derived.Test.YtmehinfgdcmmjaaGreatJ2
import Derived.Test.YtmehinfgdcmmjaaGreatJ19
import Derived.Test.YtmehinfgdcmmjaaGreatJ20
import Derived.Test.YtmehinfgdcmmjaaGreatJ18
import Derived.Test.YtmehinfgdcmmjaaGreatJ17
import Derived.Test.YtmehinfgdcmmjaaGreatJ15
namespace Go.Proofs.YtmehinfgdcmmjaaGreat
open Go.Sx
set_option maxRecDepth 20000
set_option linter.unusedSimpArgs false
set_option linter.unusedVariables false
set_option maxHeartbeats 4000000
namespace Po
theorem psC_cons (p:L) (ps:List L):psC (p::ps)=cs p.x p.pu p.u++psC ps:=rfl
def Out (F:Heap) (t:TypeId) (X:T) (v:AV) (m:List Blk):Prop :=
 Got F t X v m∨∃ G pu u,F.le G∧At G X pu u∧v.den=(AV.agg (cs X pu u)).den∧MemFits m [hpB G]
theorem out_know {f:FuncId} {args:List AV} {F:Heap} {t:TypeId} {m:List Blk} {X:T} (h:NCall Tryz.prog f args m fun v m'=>Out F t X v m') :
  NCall Tryz.prog f args m fun v m'=>Lays F X v m':=by
 refine Go.Sx.NCall.know h fun r m' hq ⟨w,hw⟩=>?_
 rcases hq with ⟨G,pu,u,ps,hle,hmap,hall,hpr,hr,hm⟩ | ⟨G,pu,u,hle,hat,hr,hm⟩
 ·have hok:=((hm w hw).1.row (List.mem_cons_of_mem _ (List.mem_cons_self ..))).1
  have hrow:=aJ (F:=G) (sz:=8) (enc:=psV) hok (psC_den ps) (fun x _=>rfl)
  refine ⟨_,_,hr.symm,hm.trans (MemFits.freeze (m:=[])),_,pu,u,hle.trans addF.old,⟨Pd.Row.mono addF.old hpr,?_⟩,rfl,rfl⟩
  rw [← hmap]
  exact row_of hrow fun p hp=>At.mono addF.old (hall p hp)
 ·exact ⟨_,_,hr.symm,hm,G,pu,u,hle,hat,rfl,rfl⟩
end Po
theorem Pd.nilRow (F:Heap):Pd.Row F (.slice .none 0 0) []:=⟨SlOk.nil,fun k x hx=>by simp at hx⟩
theorem pm (F:Heap) (k f v:Int) (p:Pd.T) (l:List Po.T) (pu u:Value) (sw:Int) (hkk:¬ (k=1∨k=5)) (hs:Pd.size p≤1000000000000) (hl:l.length≤8) (h5:k=5→l.length=2) (hpf:(k=1∨k=5)→Pd.fits p=true) (hu:Po.Row F u l) (hpu:Pd.Row F pu p.l)
  (ih:∀ G,∀ y∈l,∀ pw w,Po.At G y pw w→NCall Tryz.prog 85 [.agg (Po.cs y pw w),.int .i64 sw] [hpB G] fun r m=>Po.Lays G (Po.spec sw y) r m) :
  NCall Tryz.prog 85 [.agg (Po.cs (.mk k p f v l) pu u),.int .i64 sw] [hpB F] fun r m=>Po.Out F 71 (Po.spec sw (.mk k p f v l)) r m:=by
 have hok:=hu.ok
 have hpok:=hpu.ok
 rw [Po.spec_mk,if_neg (fun h=>hkk (.inr h.1)),if_neg hkk]
 rw [ax]
 have hk1:¬ k=1:=fun h=>hkk (.inl h)
 have hk5:¬ k=5:=fun h=>hkk (.inr h)
 clear hpf h5 hkk
 obtain ⟨pk,pf,pv,pl⟩:=p
 simp only [ab,Pd.T.k,Pd.T.f,Pd.T.v,Pd.T.l] at *
 refine aA Tryz.func85 rfl (by decide) ?_
 repeat' first|(refine sxZ ?_;try clear hK K)|refine sxW ?_ ?_<;>intro _|(intro K hK _;conv=>whnf)
 all_goals
  refine aD (α:=Heap × Value × List Po.L) (fun (G,w,ps)=>F.le G∧ps.map (·.x)=(l.take ps.length).map (Po.spec sw)∧ps.length≤l.length∧∀ p∈ps,Po.At G p.x p.pu p.u) (fun (G,w,ps)=>[.k,.k,.k,.k,.k,.k,.k,.d,.k,.k,.k,.k,.k,.k,.k,.k,.k,.k,.k,.k,.k,.k,.k,.k,.k,.k,.k,.k,.k,.k,.k,.set (.int .i64 ps.length),.d,.d,.d,.d,.d,.d,.d,.d,.d,.d,.d,.d,.k,.k,.k,.k,.k,.k,.k,.k,.k,.k,.k,.k,.k,.k,.k,.k,.k,.k])
   (fun (G,w,ps)=>[.set (hpB G),.k,.k,.cells [.int .i64 k,.int .i64 0,.int .i64 0,.int .i64 0,.raw (.slice .none 0 0),.int .i64 f,.int .i64 v,.sl 4 w ps.length],.set ⟨addrOf w,Po.psC ps,.row w 71 8 ps.length⟩]) (fun (G,w,ps)=>l.length - ps.length) (F,.slice .none 0 0,[]) ⟨F.le_refl,rfl,Nat.zero_le _,fun p hp=>by simp at hp⟩ ?_ ((MemFits.nilRow _ 71 8).trans (MemFits.congr rfl)) ?_
  ·exact aC
  (intro ⟨G,w,ps⟩ ⟨hle,hmap,hlen,hall⟩;intro K hK;(conv=>whnf);refine hK _ _ ?_;clear hK K)
  dsimp only
  generalize hk:ps.length=i at *
  by_cases hlt:i<l.length
  ·have hx:l[i]?=some l[i]:=List.getElem?_eq_getElem hlt
   obtain ⟨pA,pcap,A,cap,hA,c0,c1,c2,c3,c4,c5,c6,c7⟩:=(Po.Row.mono hle hu).get hx
   have hAo:=hA.l.ok
   have hAp:=hA.p.ok
   have hmem:=List.mem_of_getElem? hx
   have c:=ih G _ hmem _ _ hA
   have hnx:(l.take (i+1)).map (Po.spec sw)=(l.take i).map (Po.spec sw)++[Po.spec sw l[i]]:=by rw [List.take_add_one,hx,List.map_append];rfl
   clear ih
   generalize Po.spec sw l[i]=z at *
   generalize l[i]=y at *
   have hpl:=Po.psC_len ps
   have hpn:=Po.psC_next ps
   generalize hpc:Po.psC ps=pc at *
   obtain ⟨yk,⟨ypk,ypf,ypv,ypl⟩,yf,yv,yl⟩:=y
   obtain ⟨zk,⟨zpk,zpf,zpv,zpl⟩,zf,zv,zl⟩:=z
   simp only [Po.Lays,Po.cs,Po.T.k,Po.T.p,Po.T.f,Po.T.v,Po.T.l,Pd.T.k,Pd.T.f,Pd.T.v,Pd.T.l] at c c0 c1 c2 c3 c4 c5 c6 c7 hAo hAp
   repeat' first|(intro K hK;(with_reducible refine gC ?_);(refine cN [0] c ?_;rintro _ _ ⟨G',pw',w',hle2,hrow,rfl,rfl⟩;refine cR ?_))|(refine sxO ?_;try clear hK K)|refine sxW ?_ ?_<;>intro _|refine sxV ?_ ?_|(intro K hK _;conv=>whnf)
   all_goals
    rename_i v9
    refine aB (G',v9,ps++[⟨.mk zk (.mk zpk zpf zpv zpl) zf zv zl,pw',w'⟩]) ⟨hle.trans hle2,by rw [List.map_append,hmap,List.length_append,hk];exact hnx.symm,by rw [List.length_append,hk];exact hlt,fun x hx=>?_⟩ (by rw [List.length_append,hk];show l.length - (i+1)<l.length - i;omega) ?_ (MemFits.pre 5 ?_)
    ·rcases List.mem_append.1 hx with hx | hx
     ·exact Po.At.mono hle2 (hall x hx)
     ·rw [List.mem_singleton.1 hx];exact hrow
    ·simp only [List.length_append,hk]
     exact aC
    ·simp only [autoM,List.take,List.length_append,hk,hpn]
     rw [show i+[(⟨.mk zk (.mk zpk zpf zpv zpl) zf zv zl,pw',w'⟩:Po.L)].length=i+1 from rfl]
     rfl
  ·have hkl:i=l.length:=by omega
   subst hkl
   rw [List.take_length] at hmap
   clear ih
   repeat' first|(refine sxZ ?_;try clear hK K)|refine sxW ?_ ?_<;>intro _|(intro K hK _;conv=>whnf)
   all_goals exact .inl ⟨G,.slice .none 0 0,w,ps,hle,hmap,hall,Pd.nilRow G,by simp only [Po.cs,Po.T.k,Po.T.p,Po.T.f,Po.T.v,Po.T.l,Pd.T.k,Pd.T.f,Pd.T.v,Pd.T.l,List.length_map];rfl,by rw [hk];exact MemFits.pick [0,4] (by decide) rfl⟩
theorem pp (F:Heap) (k f v:Int) (p:Pd.T) (l:List Po.T) (pu u:Value) (sw:Int) (hkk:k=1) (hs:Pd.size p≤1000000000000) (hl:l.length≤8) (h5:k=5→l.length=2) (hpf:(k=1∨k=5)→Pd.fits p=true) (hu:Po.Row F u l) (hpu:Pd.Row F pu p.l)
  (ih:∀ G,∀ y∈l,∀ pw w,Po.At G y pw w→NCall Tryz.prog 85 [.agg (Po.cs y pw w),.int .i64 sw] [hpB G] fun r m=>Po.Lays G (Po.spec sw y) r m) :
  NCall Tryz.prog 85 [.agg (Po.cs (.mk k p f v l) pu u),.int .i64 sw] [hpB F] fun r m=>Po.Out F 71 (Po.spec sw (.mk k p f v l)) r m:=by
 have hok:=hu.ok
 have hpok:=hpu.ok
 have hk15:k=1∨k=5:=by omega
 have cp:=jZ _ F p pu sw (Nat.le_refl _) hs (hpf hk15) hpu
 have hq0:=Pd.fits_k (Pd.cut_fits sw p (hpf hk15))
 have hX1:k=5→(Pd.cut sw p).k≤2→Po.spec sw (.mk k p f v l)=(l.map (Po.spec sw))[((Pd.cut sw p).k - 1).toNat]?.getD Po.zero:=fun h1 h2=>by rw [Po.spec_mk,if_pos ⟨h1,h2⟩]
 have hX2:¬ (k=5∧(Pd.cut sw p).k≤2)→Po.spec sw (.mk k p f v l) = .mk k (Pd.cut sw p) f v (l.map (Po.spec sw)):=fun h=>by rw [Po.spec_mk,if_neg h,if_pos hk15]
 generalize Po.spec sw (.mk k p f v l)=X at *
 generalize Pd.cut sw p=q at *
 rw [ax]
 clear hpf hk15
 obtain ⟨pk,pf,pv,pl⟩:=p
 obtain ⟨qk,qf,qv,ql⟩:=q
 simp only [Pd.Lays,ab,Pd.T.k,Pd.T.f,Pd.T.v,Pd.T.l] at *
 subst hkk
 refine aA Tryz.func85 rfl (by decide) ?_
 repeat' first|(intro K hK;(with_reducible refine gC ?_);(refine cN [0] cp ?_;rintro _ _ ⟨F1,pu1,hle1,hpu1,rfl,rfl⟩;refine cR ?_))|(refine sxZ ?_;try clear hK K)|refine sxW ?_ ?_<;>intro _|(intro K hK _;conv=>whnf)
 all_goals
  have hpok1:=hpu1.ok
  refine aD (α:=Heap × Value × List Po.L) (fun (G,w,ps)=>F1.le G∧ps.map (·.x)=(l.take ps.length).map (Po.spec sw)∧ps.length≤l.length∧∀ p∈ps,Po.At G p.x p.pu p.u) (fun (G,w,ps)=>[.k,.k,.k,.k,.k,.k,.k,.d,.k,.k,.k,.k,.k,.k,.k,.k,.k,.k,.k,.k,.k,.k,.k,.k,.k,.k,.k,.k,.k,.k,.k,.set (.int .i64 ps.length),.d,.d,.d,.d,.d,.d,.d,.d,.d,.d,.d,.d,.k,.k,.k,.k,.k,.k,.k,.k,.k,.k,.k,.k,.k,.k,.k,.k,.k,.k])
   (fun (G,w,ps)=>[.set (hpB G),.k,.k,.cells [.int .i64 1,.int .i64 qk,.int .i64 qf,.int .i64 qv,.hs pu1 ql.length,.int .i64 f,.int .i64 v,.sl 4 w ps.length],.set ⟨addrOf w,Po.psC ps,.row w 71 8 ps.length⟩]) (fun (G,w,ps)=>l.length - ps.length) (F1,.slice .none 0 0,[]) ⟨F1.le_refl,rfl,Nat.zero_le _,fun p hp=>by simp at hp⟩ ?_ ((MemFits.nilRow _ 71 8).trans (MemFits.congr rfl)) ?_
  ·exact aC
  (intro ⟨G,w,ps⟩ ⟨hle,hmap,hlen,hall⟩;intro K hK;(conv=>whnf);refine hK _ _ ?_;clear hK K)
  dsimp only
  generalize hk:ps.length=i at *
  by_cases hlt:i<l.length
  ·have hx:l[i]?=some l[i]:=List.getElem?_eq_getElem hlt
   obtain ⟨pA,pcap,A,cap,hA,c0,c1,c2,c3,c4,c5,c6,c7⟩:=(Po.Row.mono (hle1.trans hle) hu).get hx
   have hAo:=hA.l.ok
   have hAp:=hA.p.ok
   have hmem:=List.mem_of_getElem? hx
   have c:=ih G _ hmem _ _ hA
   have hnx:(l.take (i+1)).map (Po.spec sw)=(l.take i).map (Po.spec sw)++[Po.spec sw l[i]]:=by rw [List.take_add_one,hx,List.map_append];rfl
   clear ih
   generalize Po.spec sw l[i]=z at *
   generalize l[i]=y at *
   have hpl:=Po.psC_len ps
   have hpn:=Po.psC_next ps
   generalize hpc:Po.psC ps=pc at *
   obtain ⟨yk,⟨ypk,ypf,ypv,ypl⟩,yf,yv,yl⟩:=y
   obtain ⟨zk,⟨zpk,zpf,zpv,zpl⟩,zf,zv,zl⟩:=z
   simp only [Po.Lays,Po.cs,Po.T.k,Po.T.p,Po.T.f,Po.T.v,Po.T.l,Pd.T.k,Pd.T.f,Pd.T.v,Pd.T.l] at c c0 c1 c2 c3 c4 c5 c6 c7 hAo hAp
   repeat' first|(intro K hK;(with_reducible refine gC ?_);(refine cN [0] c ?_;rintro _ _ ⟨G',pw',w',hle2,hrow,rfl,rfl⟩;refine cR ?_))|(refine sxO ?_;try clear hK K)|refine sxW ?_ ?_<;>intro _|refine sxV ?_ ?_|(intro K hK _;conv=>whnf)
   all_goals
    rename_i v9
    refine aB (G',v9,ps++[⟨.mk zk (.mk zpk zpf zpv zpl) zf zv zl,pw',w'⟩]) ⟨hle.trans hle2,by rw [List.map_append,hmap,List.length_append,hk];exact hnx.symm,by rw [List.length_append,hk];exact hlt,fun x hx=>?_⟩ (by rw [List.length_append,hk];show l.length - (i+1)<l.length - i;omega) ?_ (MemFits.pre 5 ?_)
    ·rcases List.mem_append.1 hx with hx | hx
     ·exact Po.At.mono hle2 (hall x hx)
     ·rw [List.mem_singleton.1 hx];exact hrow
    ·simp only [List.length_append,hk]
     exact aC
    ·simp only [autoM,List.take,List.length_append,hk,hpn]
     rw [show i+[(⟨.mk zk (.mk zpk zpf zpv zpl) zf zv zl,pw',w'⟩:Po.L)].length=i+1 from rfl]
     rfl
  ·have hkl:i=l.length:=by omega
   subst hkl
   rw [List.take_length] at hmap
   clear ih cp
   have hX2:=hX2 (fun h=>absurd h.1 (by decide))
   rw [hX2]
   clear hX1 hX2 h5
   repeat' first|(refine sxZ ?_;try clear hK K)|refine sxW ?_ ?_<;>intro _|(intro K hK _;conv=>whnf)
   all_goals exact .inl ⟨G,pu1,w,ps,hle1.trans hle,hmap,hall,Pd.Row.mono hle hpu1,by simp only [Po.cs,Po.T.k,Po.T.p,Po.T.f,Po.T.v,Po.T.l,Pd.T.k,Pd.T.f,Pd.T.v,Pd.T.l,List.length_map];rfl,by rw [hk];exact MemFits.pick [0,4] (by decide) rfl⟩
theorem po (F:Heap) (k f v:Int) (p:Pd.T) (l:List Po.T) (pu u:Value) (sw:Int) (hkk:k=5) (hs:Pd.size p≤1000000000000) (hl:l.length≤8) (h5:k=5→l.length=2) (hpf:(k=1∨k=5)→Pd.fits p=true) (hu:Po.Row F u l) (hpu:Pd.Row F pu p.l)
  (ih:∀ G,∀ y∈l,∀ pw w,Po.At G y pw w→NCall Tryz.prog 85 [.agg (Po.cs y pw w),.int .i64 sw] [hpB G] fun r m=>Po.Lays G (Po.spec sw y) r m) :
  NCall Tryz.prog 85 [.agg (Po.cs (.mk k p f v l) pu u),.int .i64 sw] [hpB F] fun r m=>Po.Out F 71 (Po.spec sw (.mk k p f v l)) r m:=by
 have hok:=hu.ok
 have hpok:=hpu.ok
 have hk15:k=1∨k=5:=by omega
 have cp:=jZ _ F p pu sw (Nat.le_refl _) hs (hpf hk15) hpu
 have hq0:=Pd.fits_k (Pd.cut_fits sw p (hpf hk15))
 have hX1:k=5→(Pd.cut sw p).k≤2→Po.spec sw (.mk k p f v l)=(l.map (Po.spec sw))[((Pd.cut sw p).k - 1).toNat]?.getD Po.zero:=fun h1 h2=>by rw [Po.spec_mk,if_pos ⟨h1,h2⟩]
 have hX2:¬ (k=5∧(Pd.cut sw p).k≤2)→Po.spec sw (.mk k p f v l) = .mk k (Pd.cut sw p) f v (l.map (Po.spec sw)):=fun h=>by rw [Po.spec_mk,if_neg h,if_pos hk15]
 generalize Po.spec sw (.mk k p f v l)=X at *
 generalize Pd.cut sw p=q at *
 rw [ax]
 clear hpf hk15
 obtain ⟨pk,pf,pv,pl⟩:=p
 obtain ⟨qk,qf,qv,ql⟩:=q
 simp only [Pd.Lays,ab,Pd.T.k,Pd.T.f,Pd.T.v,Pd.T.l] at *
 subst hkk
 refine aA Tryz.func85 rfl (by decide) ?_
 repeat' first|(intro K hK;(with_reducible refine gC ?_);(refine cN [0] cp ?_;rintro _ _ ⟨F1,pu1,hle1,hpu1,rfl,rfl⟩;refine cR ?_))|(refine sxZ ?_;try clear hK K)|refine sxW ?_ ?_<;>intro _|(intro K hK _;conv=>whnf)
 all_goals
  have hpok1:=hpu1.ok
  refine aD (α:=Heap × Value × List Po.L) (fun (G,w,ps)=>F1.le G∧ps.map (·.x)=(l.take ps.length).map (Po.spec sw)∧ps.length≤l.length∧∀ p∈ps,Po.At G p.x p.pu p.u) (fun (G,w,ps)=>[.k,.k,.k,.k,.k,.k,.k,.d,.k,.k,.k,.k,.k,.k,.k,.k,.k,.k,.k,.k,.k,.k,.k,.k,.k,.k,.k,.k,.k,.k,.k,.set (.int .i64 ps.length),.d,.d,.d,.d,.d,.d,.d,.d,.d,.d,.d,.d,.k,.k,.k,.k,.k,.k,.k,.k,.k,.k,.k,.k,.k,.k,.k,.k,.k,.k])
   (fun (G,w,ps)=>[.set (hpB G),.k,.k,.cells [.int .i64 5,.int .i64 qk,.int .i64 qf,.int .i64 qv,.hs pu1 ql.length,.int .i64 f,.int .i64 v,.sl 4 w ps.length],.set ⟨addrOf w,Po.psC ps,.row w 71 8 ps.length⟩]) (fun (G,w,ps)=>l.length - ps.length) (F1,.slice .none 0 0,[]) ⟨F1.le_refl,rfl,Nat.zero_le _,fun p hp=>by simp at hp⟩ ?_ ((MemFits.nilRow _ 71 8).trans (MemFits.congr rfl)) ?_
  ·exact aC
  (intro ⟨G,w,ps⟩ ⟨hle,hmap,hlen,hall⟩;intro K hK;(conv=>whnf);refine hK _ _ ?_;clear hK K)
  dsimp only
  generalize hk:ps.length=i at *
  by_cases hlt:i<l.length
  ·have hx:l[i]?=some l[i]:=List.getElem?_eq_getElem hlt
   obtain ⟨pA,pcap,A,cap,hA,c0,c1,c2,c3,c4,c5,c6,c7⟩:=(Po.Row.mono (hle1.trans hle) hu).get hx
   have hAo:=hA.l.ok
   have hAp:=hA.p.ok
   have hmem:=List.mem_of_getElem? hx
   have c:=ih G _ hmem _ _ hA
   have hnx:(l.take (i+1)).map (Po.spec sw)=(l.take i).map (Po.spec sw)++[Po.spec sw l[i]]:=by rw [List.take_add_one,hx,List.map_append];rfl
   clear ih
   generalize Po.spec sw l[i]=z at *
   generalize l[i]=y at *
   have hpl:=Po.psC_len ps
   have hpn:=Po.psC_next ps
   generalize hpc:Po.psC ps=pc at *
   obtain ⟨yk,⟨ypk,ypf,ypv,ypl⟩,yf,yv,yl⟩:=y
   obtain ⟨zk,⟨zpk,zpf,zpv,zpl⟩,zf,zv,zl⟩:=z
   simp only [Po.Lays,Po.cs,Po.T.k,Po.T.p,Po.T.f,Po.T.v,Po.T.l,Pd.T.k,Pd.T.f,Pd.T.v,Pd.T.l] at c c0 c1 c2 c3 c4 c5 c6 c7 hAo hAp
   repeat' first|(intro K hK;(with_reducible refine gC ?_);(refine cN [0] c ?_;rintro _ _ ⟨G',pw',w',hle2,hrow,rfl,rfl⟩;refine cR ?_))|(refine sxO ?_;try clear hK K)|refine sxW ?_ ?_<;>intro _|refine sxV ?_ ?_|(intro K hK _;conv=>whnf)
   all_goals
    rename_i v9
    refine aB (G',v9,ps++[⟨.mk zk (.mk zpk zpf zpv zpl) zf zv zl,pw',w'⟩]) ⟨hle.trans hle2,by rw [List.map_append,hmap,List.length_append,hk];exact hnx.symm,by rw [List.length_append,hk];exact hlt,fun x hx=>?_⟩ (by rw [List.length_append,hk];show l.length - (i+1)<l.length - i;omega) ?_ (MemFits.pre 5 ?_)
    ·rcases List.mem_append.1 hx with hx | hx
     ·exact Po.At.mono hle2 (hall x hx)
     ·rw [List.mem_singleton.1 hx];exact hrow
    ·simp only [List.length_append,hk]
     exact aC
    ·simp only [autoM,List.take,List.length_append,hk,hpn]
     rw [show i+[(⟨.mk zk (.mk zpk zpf zpv zpl) zf zv zl,pw',w'⟩:Po.L)].length=i+1 from rfl]
     rfl
  ·have hkl:i=l.length:=by omega
   subst hkl
   rw [List.take_length] at hmap
   clear ih cp
   by_cases hq2:qk≤2
   ·have hX1:=hX1 rfl hq2
    rw [hX1]
    clear hX1 hX2
    have hl2:=h5 rfl
    match l,hl2,ps,hk,hmap with
    | [a,b],_,[x,y],_,hmap =>
     have hax:x.x=Po.spec sw a∧y.x=Po.spec sw b:=by simpa using hmap
     by_cases hq1:qk=1
     ·subst hq1
      have hq:[x,y][0]?=some x:=rfl
      repeat' first|((try intro K hK);(refine Po.cellsK_ps hq ?_;conv=>whnf))|(refine sxZ ?_;try clear hK K)|refine sxW ?_ ?_<;>intro _|(intro K hK _;conv=>whnf)|(intro _;conv=>whnf)
      all_goals exact .inr ⟨G,x.pu,x.u,hle1.trans hle,by show Po.At G (Po.spec sw a) x.pu x.u;rw [← hax.1];exact hall x (by simp),by show _=(AV.agg (Po.cs (Po.spec sw a) x.pu x.u)).den;rw [← hax.1];rfl,MemFits.pre 1 rfl⟩
     ·obtain rfl:qk=2:=by omega
      have hq:[x,y][1]?=some y:=rfl
      repeat' first|((try intro K hK);(refine Po.cellsK_ps hq ?_;conv=>whnf))|(refine sxZ ?_;try clear hK K)|refine sxW ?_ ?_<;>intro _|(intro K hK _;conv=>whnf)|(intro _;conv=>whnf)
      all_goals exact .inr ⟨G,y.pu,y.u,hle1.trans hle,by show Po.At G (Po.spec sw b) y.pu y.u;rw [← hax.2];exact hall y (by simp),by show _=(AV.agg (Po.cs (Po.spec sw b) y.pu y.u)).den;rw [← hax.2];rfl,MemFits.pre 1 rfl⟩
   ·have hX2:=hX2 (fun h=>hq2 h.2)
    rw [hX2]
    clear hX1 hX2
    repeat' first|(refine sxZ ?_;try clear hK K)|refine sxW ?_ ?_<;>intro _|(intro K hK _;conv=>whnf)
    all_goals exact .inl ⟨G,pu1,w,ps,hle1.trans hle,hmap,hall,Pd.Row.mono hle hpu1,by simp only [Po.cs,Po.T.k,Po.T.p,Po.T.f,Po.T.v,Po.T.l,Pd.T.k,Pd.T.f,Pd.T.v,Pd.T.l,List.length_map];rfl,by rw [hk];exact MemFits.pick [0,4] (by decide) rfl⟩
theorem pq:∀ (n:Nat) (F:Heap) (x:Po.T) (pu u:Value) (sw:Int),Po.tot x≤n→Po.tot x≤1000000000000→Po.fits x=true→Po.At F x pu u →
  NCall Tryz.prog 85 [.agg (Po.cs x pu u),.int .i64 sw] [hpB F] fun r m=>Po.Lays F (Po.spec sw x) r m
 | 0,F,x,pu,u,sw,hn,_,_,_=>absurd (Po.tot_pos x) (by omega)
 | n+1,F,⟨k,p,f,v,l⟩,pu,u,sw,hn,hs,hf,hx=>by
  refine Po.out_know (t:=71) ?_
  have hu:Po.Row F u l:=hx.l
  have hpu:Pd.Row F pu p.l:=hx.p
  have e2:=Po.tot_mk k p f v l
  obtain ⟨hsh,hfl⟩:=Po.fits_iff.1 hf
  have ih:∀ G,∀ y∈l,∀ pw w,Po.At G y pw w→NCall Tryz.prog 85 [.agg (Po.cs y pw w),.int .i64 sw] [hpB G] fun r m=>Po.Lays G (Po.spec sw y) r m:=fun G y hy pw w hw=>pq n G y pw w sw (by have:=Po.tot_lt (k:=k) (q:=p) (f:=f) (v:=v) hy;omega) (by have:=Po.tot_lt (k:=k) (q:=p) (f:=f) (v:=v) hy;omega) (hfl y hy) hw
  have hl:l.length≤8:=by omega
  have h5:k=5→l.length=2:=fun h=>by omega
  have hpf:(k=1∨k=5)→Pd.fits p=true:=fun h=>by
   have:Pd.right p=true:=by
    rcases hsh with h1 | h1 | h1 | h1
    ·exact h1.2.1
    ·omega
    ·omega
    ·exact h1.2.1
   exact Po.right_fits this
  by_cases hk1:k=1
  ·exact pp F k f v p l pu u sw hk1 (by omega) hl h5 hpf hu hpu ih
  by_cases hk5:k=5
  ·exact po F k f v p l pu u sw hk5 (by omega) hl h5 hpf hu hpu ih
  ·exact pm F k f v p l pu u sw (by omega) (by omega) hl h5 hpf hu hpu ih
namespace Po
def cellsN (x:T):Nat→Nat
 | 0=>1
 | i+1=>min (cellsN x i*((values i x).length+1)) 100000
def cells (x:T):Nat:=cellsN x 5
theorem cellsN_le (x:T):∀ i,cellsN x i≤100000
 | 0=>by simp [cellsN]
 | i+1=>by rw [cellsN];omega
def check (bt:Bool) (t:Tp.T) (x:T):Int:=if bt=false then 2 else if right x=false then 17 else if (values 4 x).any (fun p=>!Tp.named t p)=true then 13 else if (values 5 x).any (fun s=>decide (s≥t.n))=true then 13 else if cells x>4096 then 6 else 0
end Po
theorem ru {F:Heap} {v:Value} {l:List Int} (h:Srt.Row F v l) {i:Nat} {x:Int} (hx:l[i]?=some x):F.c ((addrOf v).add i) (.int .i64 x):=by
 obtain ⟨us,rfl,_,h2⟩:=h.at_ i x hx
 rw [Nat.mul_one] at h2
 exact h2.1
section
variable (F:Heap)
theorem pD (q:Int→Bool) (v:Value) (l:List Int) (hv:Srt.Row F v l) (hn:l.length≤4611686018427387904) (g:FuncId) (first captured:List AV)
  (hg:∀ x∈l,NCall Tryz.prog g (first++[.int .i64 x]++captured) [hpB F] fun r m=>r = .bool (q x)∧m=[hpB F]) :
  NCall Tryz.prog 77 [.hs v l.length,.fn g first captured] [hpB F] fun r m=>(∃ j:Int,r = .int .i64 j∧(0≤j↔l.any q=true))∧m=[hpB F]:=by
 have hok:=hv.ok
 refine aA Tryz.func77 rfl (by decide) ?_
 repeat' first|(refine sxZ ?_;try clear hK K)|refine sxW ?_ ?_<;>intro _|(intro K hK _;conv=>whnf)
 refine aD (α:=Nat) (fun k=>k≤l.length∧(l.take k).any q=false) (fun k=>[.k,.k,.k,.k,.d,.d,.k,.k,.set (.int .i64 k),.d,.d,.d,.d,.d,.d,.d,.d,.d,.d]) (fun _=>[]) (fun k=>l.length - k) 0 ⟨Nat.zero_le _,rfl⟩ ?_ (MemFits.eq rfl) ?_
 ·exact aC
 (intro k ⟨hk,hgone⟩;intro K hK;(conv=>whnf);refine hK _ _ ?_;clear hK K)
 by_cases hlt:k<l.length
 ·have hx:l[k]?=some l[k]:=List.getElem?_eq_getElem hlt
  have c0:=ru hv hx
  have c:=hg _ (List.getElem_mem hlt)
  have hnx:=iG (q:=q) hx
  have hat:=mI (q:=q) hx
  generalize l[k]=x at *
  cases hq:q x with
  | false =>
   rw [hq] at c
   repeat' first|(intro K hK;(with_reducible refine gC ?_);refine cS [0] c ?_)|(refine sxZ ?_;try clear hK K)|refine sxW ?_ ?_<;>intro _|(intro K hK _;conv=>whnf)
   refine aB (k+1) ⟨hlt,by rw [hnx,hgone,hq];rfl⟩ (by omega) ?_ (MemFits.eq rfl)
   exact aC
  | true =>
   rw [hq] at c
   repeat' first|(intro K hK;(with_reducible refine gC ?_);refine cS [0] c ?_)|(refine sxZ ?_;try clear hK K)|refine sxW ?_ ?_<;>intro _|(intro K hK _;conv=>whnf)
   exact ⟨⟨_,rfl,⟨fun _=>hat hq,fun _=>by omega⟩⟩,rfl⟩
 ·have hkl:k=l.length:=by omega
  subst hkl
  rw [List.take_length] at hgone
  repeat' first|(refine sxZ ?_;try clear hK K)|refine sxW ?_ ?_<;>intro _|(intro K hK _;conv=>whnf)
  exact ⟨⟨_,rfl,⟨fun h=>by omega,fun h=>by rw [hgone] at h;cases h⟩⟩,rfl⟩
theorem fk (q:Int→Bool) (v:Value) (l:List Int) (hv:Srt.Row F v l) (hn:l.length≤4611686018427387904) (g:FuncId) (first captured:List AV)
  (hg:∀ x∈l,NCall Tryz.prog g (first++[.int .i64 x]++captured) [hpB F] fun r m=>r = .bool (q x)∧m=[hpB F]) :
  NCall Tryz.prog 45 [.hs v l.length,.fn g first captured] [hpB F] fun r m=>r = .bool (l.any q)∧m=[hpB F]:=by
 have hi:=pD F q v l hv hn g first captured hg
 refine aA Tryz.func45 rfl (by decide) ?_
 repeat' first|(intro K hK;(with_reducible refine gC ?_);(refine cN [0] hi ?_;rintro _ _ ⟨⟨j,rfl,hj⟩,rfl⟩;refine cR ?_))|(refine sxZ ?_;try clear hK K)|refine sxW ?_ ?_<;>intro _|(intro K hK _;conv=>whnf)
 all_goals
  refine ⟨?_,rfl⟩
  congr 1
  by_cases h:0≤j
  ·rw [hj.1 h];exact decide_eq_true h
  ·rw [show l.any q=false by cases e:l.any q with | false=>rfl | true=>exact (h (hj.2 e)).elim];exact decide_eq_false h
end
theorem i5 (F:Heap) (x:Po.T) (pu u:Value) (hs:Po.tot x≤2932031007402) (hx:Po.At F x pu u):NCall Tryz.prog 50 [.agg (Po.cs x pu u)] [hpB F] fun r m=>r = .int .i64 (Po.cells x:Nat)∧m=[hpB F]:=by
 refine NCall.fits (K:=fun r m=>r = .int .i64 (Po.cells x:Nat)∧∃ F',F.le F'∧MemFits m [hpB F']) ?_ fun r m' ⟨h1,F',h2,h3⟩=>⟨r,_,rfl,h3.trans (MemFits.less h2 []),h1,rfl⟩
 have hok:=hx.l.ok
 have hpok:=hx.p.ok
 have cv:=fun (G:Heap) (hG:F.le G) (f:Nat) (hf:f≤5)=>dm G x pu u f (by omega) hs (Po.At.mono hG hx)
 have hcl:=Po.cellsN_le x
 have hvl:=fun f=>Po.values_len f x
 unfold Po.cells
 have hnx:∀ i,Po.cellsN x (i+1)=min (Po.cellsN x i*((Po.values i x).length+1)) 100000:=fun i=>by rw [Po.cellsN]
 have hbig:∀ i,Po.cellsN x i*((Po.values i x).length+1)≤293203100740300000:=fun i=>by
  have h1:=hcl i
  have h2:=hvl i
  calc _≤100000*(2932031007402+1):=Nat.mul_le_mul h1 (by omega)
   _≤_:=by decide
 have h0:Po.cellsN x 0=1:=rfl
 have hlv:∀ f,(Po.values f x).length≤2932031007402:=fun f=>Nat.le_trans (hvl f) hs
 clear hx hs hvl
 generalize hC:Po.cellsN x=C at *
 obtain ⟨k,⟨pk,pf,pv,pl⟩,f,v0,l⟩:=x
 simp only [Srt.Lays,Po.cs,Po.T.k,Po.T.p,Po.T.f,Po.T.v,Po.T.l,Pd.T.k,Pd.T.f,Pd.T.v,Pd.T.l] at *
 refine aA Tryz.func50 rfl (by decide) ?_
 repeat' first|(refine sxZ ?_;try clear hK K)|refine sxW ?_ ?_<;>intro _|(intro K hK _;conv=>whnf)
 refine aD (α:=Heap × Nat) (fun (G,i)=>F.le G∧i≤5) (fun (G,i)=>[.k,.k,.k,.set (.int .i64 (C i:Nat)),.set (.int .i64 i),.d,.d,.d,.d,.d,.d,.d,.d,.d,.d,.d,.d,.k]) (fun (G,i)=>[.set (hpB G)]) (fun (G,i)=>5 - i) (F,0) ⟨F.le_refl,by decide⟩ ?_ (MemFits.eq rfl) ?_
 ·repeat (first | exact FitsSl.nil | refine FitsSl.any ?_ | refine FitsSl.cons (Fit1.int (by  simp [h0])) ?_ | refine FitsSl.cons (Fit1.int (by first | rfl | omega)) ?_ | refine FitsSl.cons (Fit1.bool rfl) ?_ | refine FitsSl.cons (Fit1.str rfl) ?_ | refine FitsSl.cons (Fit1.same (by intro h;cases h) (by with_reducible rfl)) ?_ | refine FitsSl.cons Fit1.nil_sl ?_ | refine FitsSl.cons (Fit1.hs rfl) ?_ | refine FitsSl.cons (Fit1.hp rfl rfl) ?_ | refine FitsSl.cons (Fit1.sl rfl) ?_ | refine FitsSl.cons (Fit1.ptr rfl rfl) ?_ | refine FitsSl.cons Fit1.raw ?_)
 (intro ⟨G,i⟩ ⟨hle,hi⟩;intro K hK;(conv=>whnf);refine hK _ _ ?_;clear hK K)
 dsimp only
 by_cases hlt:i<5
 ·have c:=(cv G hle i (by omega)).mono (K':=fun r m=>∃ F' v,G.le F'∧SlOk v (Po.values i (.mk k (.mk pk pf pv pl) f v0 l)).length∧r = .hs v (Po.values i (.mk k (.mk pk pf pv pl) f v0 l)).length∧m=[hpB F']) fun r m ⟨F',v,h1,h2,h3,h4⟩=>⟨F',v,h1,h2.ok,h3,h4⟩
  have hn:=hnx i
  have hb:=hbig i
  have hl:=hlv i
  have hc:=hcl i
  clear cv hnx hbig hlv hcl
  generalize Po.values i (.mk k (.mk pk pf pv pl) f v0 l)=L at *
  generalize C i=c0 at *
  have hprod:((c0:Int)*((L.length:Int)+1))=((c0*(L.length+1):Nat):Int):=by push_cast;rfl
  repeat' first|(intro K hK;(with_reducible refine gC ?_);(refine cN [0] c ?_;rintro _ _ ⟨F',w',hle2,hok2,rfl,rfl⟩;refine cR ?_))|(refine sxZ ?_;try clear hK K)|refine sxW ?_ ?_<;>intro _|(intro K hK _;conv=>whnf)
  refine aB (F',i+1) ⟨hle.trans hle2,hlt⟩ (show 5 - (i+1)<5 - i by omega) ?_ (MemFits.pre 2 rfl)
  repeat (first | exact FitsSl.nil | refine FitsSl.any ?_ | refine FitsSl.cons (Fit1.int (by  (simp only [hn];omega))) ?_ | refine FitsSl.cons (Fit1.int (by first | rfl | omega)) ?_ | refine FitsSl.cons (Fit1.bool rfl) ?_ | refine FitsSl.cons (Fit1.str rfl) ?_ | refine FitsSl.cons (Fit1.same (by intro h;cases h) (by with_reducible rfl)) ?_ | refine FitsSl.cons Fit1.nil_sl ?_ | refine FitsSl.cons (Fit1.hs rfl) ?_ | refine FitsSl.cons (Fit1.hp rfl rfl) ?_ | refine FitsSl.cons (Fit1.sl rfl) ?_ | refine FitsSl.cons (Fit1.ptr rfl rfl) ?_ | refine FitsSl.cons Fit1.raw ?_)
 ·obtain rfl:i=5:=by omega
  repeat' first|(refine sxZ ?_;try clear hK K)|refine sxW ?_ ?_<;>intro _|(intro K hK _;conv=>whnf)
  all_goals exact ⟨rfl,G,hle,MemFits.pre 1 rfl⟩
theorem pe (F:Heap) (t:Tp.T) (lv hv:Value) (p:Int) (b:Addr) (ht:Tp.At F t lv hv) (hl:t.ls.length≤1000) (hh:t.hs.length≤1000) (hb:CellsF F b 0 (denL (Tp.cs t lv hv))):NCall Tryz.prog 47 [.int .i64 p,.hp b 0] [hpB F] fun r m=>r = .bool (!Tp.named t p)∧m=[hpB F]:=by
 refine NCall.fits (K:=fun r m=>r = .bool (!Tp.named t p)∧MemFits m [hpB F]) ?_ fun r m' h=>⟨r,_,rfl,h.2,h.1,rfl⟩
 have cn:=nW F t lv hv p ht hl hh
 obtain ⟨lA,lcap,hlv,hl1,hl2⟩:=ht.l.ok
 obtain ⟨hA,hcap,hhv,hh1,hh2⟩:=ht.h.ok
 generalize Tp.named t p=bn at *
 subst hlv hhv
 obtain ⟨c0,c1,c2,_⟩:=hb
 unfold Tp.cs at cn
 refine aA Tryz.func47 rfl (by decide) ?_
 repeat' first|(intro K hK;(with_reducible refine gC ?_);refine cS [0] cn ?_)|(refine sxZ ?_;try clear hK K)|refine sxW ?_ ?_<;>intro _|(intro K hK _;conv=>whnf)
 all_goals exact ⟨rfl,MemFits.pre 1 rfl⟩
theorem pZ (F:Heap) (n:Int) (s:Int) (b:Addr) (hb:F.c (b.add 0) (.int .i64 n)):NCall Tryz.prog 49 [.int .i64 s,.hp b 0] [hpB F] fun r m=>r = .bool (decide (s≥n))∧m=[hpB F]:=by
 refine NCall.fits (K:=fun r m=>r = .bool (decide (s≥n))∧MemFits m [hpB F]) ?_ fun r m' h=>⟨r,_,rfl,h.2,h.1,rfl⟩
 refine aA Tryz.func49 rfl (by decide) ?_
 repeat' first|(refine sxZ ?_;try clear hK K)|refine sxW ?_ ?_<;>intro _|(intro K hK _;conv=>whnf)
 all_goals exact ⟨rfl,MemFits.pre 1 rfl⟩
theorem nx (F:Heap) (t:Tp.T) (lv hv:Value) (x:Po.T) (pu u:Value) (bt:Bool) (ht:Tp.At F t lv hv) (hl:t.ls.length≤1000) (hh:t.hs.length≤1000) (hs:Po.tot x≤2932031007402) (hx:Po.At F x pu u)
  (cr:NCall Tryz.prog 43 [.agg (Tp.cs t lv hv)] [hpB F] fun r m=>r = .bool bt∧m=[hpB F]) :
  NCall Tryz.prog 20 [.agg (Tp.cs t lv hv),.agg (Po.cs x pu u)] [hpB F] fun r m=>r = .int .i64 (Po.check bt t x)∧m=[hpB F]:=by
 refine NCall.fits (K:=fun r m=>r = .int .i64 (Po.check bt t x)∧∃ F',F.le F'∧MemFits m [hpB F']) ?_ fun r m' ⟨h1,F',h2,h3⟩=>⟨r,_,rfl,h3.trans (MemFits.less h2 []),h1,rfl⟩
 have hlo:=ht.l.ok
 have hho:=ht.h.ok
 have hok:=hx.l.ok
 have hpok:=hx.p.ok
 have crt:=iU F x pu u (by omega) hx
 have c4:=(dm F x pu u 4 (by omega) hs hx)
 have c5:=fun G (hG:F.le G)=>(dm G x pu u 5 (by omega) hs (Po.At.mono hG hx))
 have cc:=fun G (hG:F.le G)=>i5 G x pu u hs (Po.At.mono hG hx)
 have hl4:=Po.values_len 4 x
 have hl5:=Po.values_len 5 x
 have k1:∀ G (hG:F.le G) (b:Addr) (v:Value) (L:List Int),Srt.Row G v L→L.length≤2932031007402→NCall Tryz.prog 45 [.hs v L.length,.fn 47 [] [.ptr 1 b 0]] [hpB G,⟨b,Tp.cs t lv hv,.var 25⟩] fun r m=>r = .bool (L.any fun p=>!Tp.named t p)∧m=[hpB G,⟨b,Tp.cs t lv hv,.var 25⟩]:=fun G hG b v L hv' hL =>
  NCall.keep (fk (addF G b (denL (Tp.cs t lv hv))) (fun p=>!Tp.named t p) v L (aH.mono addF.old (fun _ _ h=>h) hv') (by omega) 47 [] [.hp b 0] fun p _=>pe _ t lv hv p b (Tp.At.mono (hG.trans addF.old) ht) hl hh addF.new) rfl (MemFits.freezeVar (m:=[])) rfl fun r mL' h=>⟨r,rfl,h.1,rfl⟩
 have k2:∀ G (hG:F.le G) (b:Addr) (v:Value) (L:List Int),Srt.Row G v L→L.length≤2932031007402→NCall Tryz.prog 45 [.hs v L.length,.fn 49 [] [.ptr 1 b 0]] [hpB G,⟨b,Tp.cs t lv hv,.var 25⟩] fun r m=>r = .bool (L.any fun s=>decide (s≥t.n))∧m=[hpB G,⟨b,Tp.cs t lv hv,.var 25⟩]:=fun G hG b v L hv' hL=>by
  have hnew:=addF.new (F:=G) (a:=b) (vs:=denL (Tp.cs t lv hv))
  obtain ⟨d0,_⟩:=hnew
  exact NCall.keep (fk (addF G b (denL (Tp.cs t lv hv))) (fun s=>decide (s≥t.n)) v L (aH.mono addF.old (fun _ _ h=>h) hv') (by omega) 49 [] [.hp b 0] fun s _=>pZ _ t.n s b d0) rfl (MemFits.freezeVar (m:=[])) rfl fun r mL' h=>⟨r,rfl,h.1,rfl⟩
 unfold Po.check
 generalize Po.right x=br at *
 generalize Po.cells x=nc at *
 generalize Po.values 4 x=L4 at *
 generalize Po.values 5 x=L5 at *
 have k1:=fun G hG b v hv=>k1 G hG b v L4 hv (by omega)
 have k2:=fun G hG b v hv=>k2 G hG b v L5 hv (by omega)
 clear ht hlo hho
 generalize (L4.any fun p=>!Tp.named t p)=b4 at *
 generalize (L5.any fun s=>decide (s≥t.n))=b5 at *
 have c4:=c4.mono (K':=fun r m=>∃ F' v,F.le F'∧Srt.Row F' v L4∧SlOk v L4.length∧r = .hs v L4.length∧m=[hpB F']) fun r m ⟨F',v,h1,h2,h3,h4⟩=>⟨F',v,h1,h2,h2.ok,h3,h4⟩
 have c5:=fun G hG=>(c5 G hG).mono (K':=fun r m=>∃ F' v,G.le F'∧Srt.Row F' v L5∧SlOk v L5.length∧r = .hs v L5.length∧m=[hpB F']) fun r m ⟨F',v,h1,h2,h3,h4⟩=>⟨F',v,h1,h2,h2.ok,h3,h4⟩
 obtain ⟨k,⟨pk,pf,pv,pl⟩,f,v0,l⟩:=x
 obtain ⟨tn,ls,hs'⟩:=t
 simp only [Tp.cs,Po.cs,Po.T.k,Po.T.p,Po.T.f,Po.T.v,Po.T.l,Pd.T.k,Pd.T.f,Pd.T.v,Pd.T.l] at *
 refine aA Tryz.func20 rfl (by decide) ?_
 cases bt
 ·repeat' first|(intro K hK;(with_reducible refine gC ?_);refine cS [0] cr ?_)|(refine sxZ ?_;try clear hK K)|refine sxW ?_ ?_<;>intro _|(intro K hK _;conv=>whnf)
  all_goals exact ⟨rfl,F,F.le_refl,MemFits.pre 1 rfl⟩
 cases br
 ·repeat' first|(intro K hK;(with_reducible refine gC ?_);first|refine cS [0] cr ?_|refine cS [0] crt ?_)|(refine sxZ ?_;try clear hK K)|refine sxW ?_ ?_<;>intro _|(intro K hK _;conv=>whnf)
  all_goals exact ⟨rfl,F,F.le_refl,MemFits.pre 1 rfl⟩
 cases b4
 case true =>
  repeat' first|(intro K hK;(with_reducible refine gC ?_);first|refine cS [0] cr ?_|refine cS [0] crt ?_|(refine cN [0] c4 ?_;rintro _ _ ⟨F1,v1,hle1,hr1,hok1,rfl,rfl⟩;refine cR ?_)|refine cS [0,1] (k1 F1 hle1 _ v1 hr1) ?_)|(refine sxZ ?_;try clear hK K)|refine sxW ?_ ?_<;>intro _|(intro K hK _;conv=>whnf)
  all_goals exact ⟨rfl,F1,hle1,MemFits.pre 1 rfl⟩
 cases b5
 case true =>
  repeat' first|(intro K hK;(with_reducible refine gC ?_);first|refine cS [0] cr ?_|refine cS [0] crt ?_|(refine cN [0] c4 ?_;rintro _ _ ⟨F1,v1,hle1,hr1,hok1,rfl,rfl⟩;refine cR ?_)|refine cS [0,1] (k1 F1 hle1 _ v1 hr1) ?_|(refine cN [0] (c5 F1 hle1) ?_;rintro _ _ ⟨F2,v2,hle2,hr2,hok2,rfl,rfl⟩;refine cR ?_)|refine cS [0,1] (k2 F2 (hle1.trans hle2) _ v2 hr2) ?_)|(refine sxZ ?_;try clear hK K)|refine sxW ?_ ?_<;>intro _|(intro K hK _;conv=>whnf)
  all_goals exact ⟨rfl,F2,hle1.trans hle2,MemFits.pre 1 rfl⟩
 repeat' first|(intro K hK;(with_reducible refine gC ?_);first|refine cS [0] cr ?_|refine cS [0] crt ?_|(refine cN [0] c4 ?_;rintro _ _ ⟨F1,v1,hle1,hr1,hok1,rfl,rfl⟩;refine cR ?_)|refine cS [0,1] (k1 F1 hle1 _ v1 hr1) ?_|(refine cN [0] (c5 F1 hle1) ?_;rintro _ _ ⟨F2,v2,hle2,hr2,hok2,rfl,rfl⟩;refine cR ?_)|refine cS [0,1] (k2 F2 (hle1.trans hle2) _ v2 hr2) ?_|refine cS [0] (cc F2 (hle1.trans hle2)) ?_)|(refine sxZ ?_;try clear hK K)|refine sxW ?_ ?_<;>intro _|(intro K hK _;conv=>whnf)
 all_goals
  refine ⟨?_,F2,hle1.trans hle2,MemFits.pre 1 rfl⟩
  simp
  omega
namespace Tr
theorem cells_pre {F:Heap} {a:Addr}:∀ (l l2:List Value) (o:Nat),CellsF F a o (l++l2)→CellsF F a o l
 | [],_,_,_=>trivial
 | _::l,l2,o,h=>⟨h.1,cells_pre l l2 (o+1) h.2⟩
theorem Mk.of {G:Heap} {a:Addr} {y:Po.T} {sw:Int} {pu u v0 v1 v2 v3 v4:Value} (hp:Po.At G y pu u) (h0:Srt.Row G v0 (Po.values 0 y)) (h1:Srt.Row G v1 (Po.values 1 y)) (h2:Srt.Row G v2 (Po.values 2 y)) (h3:Srt.Row G v3 (Po.values 3 y)) (h4:Srt.Row G v4 (Po.values 4 y))
  (hc:CellsF G a 0 (denL (Po.cs y pu u++[.int .i64 sw]++[.hs v0 (Po.values 0 y).length,.hs v1 (Po.values 1 y).length,.hs v2 (Po.values 2 y).length,.hs v3 (Po.values 3 y).length,.hs v4 (Po.values 4 y).length]))):Mk G a y sw pu u:=by
 refine ⟨hp,?_,fun f hf=>?_⟩
 ·rw [aQ] at hc
  exact cells_pre _ _ _ hc
 ·obtain ⟨_,_,_,_,_,_,_,_,_,d0,d1,d2,d3,d4,_⟩:=hc
  have key:∀ (v:Value) (l:List Int) (k:Nat),Srt.Row G v l→G.c (a.add k) (AV.hs v l.length).den→∃ A cap,Srt.Row G (.slice A l.length cap) l∧G.c (a.add k) (.slice A l.length cap):=fun v l k hv hk=>by
   obtain ⟨A,cap,rfl,_,_⟩:=hv.ok
   exact ⟨A,cap,hv,hk⟩
  rcases ok5 hf with rfl | rfl | rfl | rfl | rfl
  ·exact key v0 _ 9 h0 d0
  ·exact key v1 _ 10 h1 d1
  ·exact key v2 _ 11 h2 d2
  ·exact key v3 _ 12 h3 d3
  ·exact key v4 _ 13 h4 d4
end Tr
theorem nR:NCall Tryz.prog 87 [] [] fun r m=>∃ v,r = .sl 0 v 5∧m=[⟨addrOf v,[.int .i64 4,.int .i64 0,.int .i64 1,.int .i64 2,.int .i64 3],.row v 3 1 5⟩]:=by
 refine aA Tryz.func87 rfl (by decide) ?_
 repeat' first|(refine sxZ ?_;try clear hK K)|refine sxW ?_ ?_<;>intro _|(intro K hK _;conv=>whnf)
 all_goals exact ⟨_,rfl,rfl⟩
theorem ny (G:Heap) (y:Po.T) (sw:Int) (pu u:Value) (hs:Po.tot y≤4611686018427387904) (hf:Po.fits y=true) (hl:∀ s,(Po.runs sw y s).length≤1000) (hc:Tr.cnt y Tr.order≤1000000) (v0 v1 v2 v3 v4:Value) (hp:Po.At G y pu u) (h0:Srt.Row G v0 (Po.values 0 y)) (h1:Srt.Row G v1 (Po.values 1 y)) (h2:Srt.Row G v2 (Po.values 2 y)) (h3:Srt.Row G v3 (Po.values 3 y)) (h4:Srt.Row G v4 (Po.values 4 y)) (b:Nat) (w:Value) :
  NCall Tryz.prog 86 [.ptr 1 ⟨b,0,none⟩ 0,.sl 2 w 5,.agg [.int .i64 (-1),.int .i64 (-1),.int .i64 (-1),.int .i64 (-1),.int .i64 (-1),.raw (.slice none 0 0)]]
   [hpB G,⟨⟨b,0,none⟩,Po.cs y pu u++[.int .i64 sw]++[.hs v0 (Po.values 0 y).length,.hs v1 (Po.values 1 y).length,.hs v2 (Po.values 2 y).length,.hs v3 (Po.values 3 y).length,.hs v4 (Po.values 4 y).length],.var 155⟩,⟨addrOf w,[.int .i64 4,.int .i64 0,.int .i64 1,.int .i64 2,.int .i64 3],.row w 3 1 5⟩]
   fun r m=>∃ F' v,G.le F'∧Tr.Row F' v (Tr.cases sw y Tr.order Tr.start)∧r = .hs v (Tr.cases sw y Tr.order Tr.start).length∧m=[hpB F',hpB noHeap,hpB noHeap]:=by
 have hord:∀ f∈Tr.order,Tr.ok f:=fun f h=>Tr.mem_order.1 h
 rw [aM]
 refine ⟨Go.Sx.enters_of Tryz.func86 rfl (by decide),fun W hW=>(aM.1 ?_).2 W hW⟩
 have hok:=(hW.row (List.mem_cons_of_mem _ (List.mem_cons_of_mem _ (List.mem_cons_self ..)))).1
 have hrow:=aJ (F:=addF G ⟨b,0,none⟩ (denL (Po.cs y pu u++[.int .i64 sw]++[.hs v0 (Po.values 0 y).length,.hs v1 (Po.values 1 y).length,.hs v2 (Po.values 2 y).length,.hs v3 (Po.values 3 y).length,.hs v4 (Po.values 4 y).length]))) (sz:=1) (enc:=fun x:Int=>[.int .i64 x]) (l:=Tr.order) (vs:=denL [.int .i64 4,.int .i64 0,.int .i64 1,.int .i64 2,.int .i64 3]) hok rfl (fun x _=>rfl)
 have hm:Tr.Mk (addF G ⟨b,0,none⟩ (denL (Po.cs y pu u++[.int .i64 sw]++[.hs v0 (Po.values 0 y).length,.hs v1 (Po.values 1 y).length,.hs v2 (Po.values 2 y).length,.hs v3 (Po.values 3 y).length,.hs v4 (Po.values 4 y).length]))) ⟨b,0,none⟩ y sw pu u :=
  Tr.Mk.of (hp.mono addF.old) (aH.mono addF.old (fun _ _ h=>h) h0) (aH.mono addF.old (fun _ _ h=>h) h1) (aH.mono addF.old (fun _ _ h=>h) h2) (aH.mono addF.old (fun _ _ h=>h) h3) (aH.mono addF.old (fun _ _ h=>h) h4) addF.new
 have c:=i6 y sw ⟨b,0,none⟩ pu u hs hf hl Tr.order _ Tr.start w hord hc hrow (hm.mono addF.old)
 refine (NCall.pre (args:=[.ptr 1 ⟨b,0,none⟩ 0,.sl 2 w 5,.agg [.int .i64 (-1),.int .i64 (-1),.int .i64 (-1),.int .i64 (-1),.int .i64 (-1),.raw (.slice none 0 0)]]) (mL:=[hpB _]) c rfl ?_).fits fun r m' hr=>?_
 ·exact (MemFits.freezeVar (m:=[_])).trans (MemFits.freeze (m:=[]))
 ·obtain ⟨F',v,h1,h2,rfl,rfl⟩:=hr
  exact ⟨_,_,rfl,((MemFits.noHeap _).trans (MemFits.noHeap _)).trans (MemFits.pick [2,0,1] (by decide) rfl),F',v,(addF.old.trans addF.old).trans h1,h2,rfl,rfl⟩
def Tr.ans (sw:Int) (x:Po.T):List Tr.C × Int:=if Po.right x=true then (Tr.all sw x,0) else ([],17)
theorem oE (F:Heap) (x:Po.T) (pu u:Value) (sw:Int) (hs:Po.tot x≤1000000000) (hx:Po.At F x pu u) (hce:Po.right x=true→Po.cells (Po.spec sw x)≤4096) (hc:Po.right x=true→Tr.cnt (Po.spec sw x) Tr.order≤1000000) :
  NCall Tryz.prog 51 [.agg (Po.cs x pu u),.int .i64 sw] [hpB F] fun r m=>∃ F' v,F.le F'∧Tr.Row F' v (Tr.ans sw x).1∧r = .tup [.hs v (Tr.ans sw x).1.length,.int .i64 (Tr.ans sw x).2]∧m=[hpB F']:=by
 have hok:=hx.l.ok
 have hpok:=hx.p.ok
 have cR:=iU F x pu u (by omega) hx
 refine NCall.fits (K:=fun r m=>∃ F' v,F.le F'∧Tr.Row F' v (Tr.ans sw x).1∧r.den=(AV.tup [.hs v (Tr.ans sw x).1.length,.int .i64 (Tr.ans sw x).2]).den∧MemFits m [hpB F']) ?_ fun r m' ⟨F',v,h1,h2,h3,h4⟩=>⟨_,_,h3.symm,h4,F',v,h1,h2,rfl,rfl⟩
 unfold Tr.ans
 by_cases hr:Po.right x=true
 rotate_left
 ·have hr:Po.right x=false:=by simpa using hr
  rw [hr] at cR ⊢
  clear hx hce hc
  obtain ⟨k,⟨pk,pf,pv,pl⟩,a,v,l⟩:=x
  simp only [ax,Po.T.l,Po.T.p,Pd.T.k,Pd.T.f,Pd.T.v,Pd.T.l] at *
  refine aA Tryz.func51 rfl (by decide) ?_
  repeat' first|(intro K hK;(with_reducible refine gC ?_);refine Go.Sx.cS [0] cR ?_)|(refine sxZ ?_;try clear hK K)|refine sxW ?_ ?_<;>intro _|(intro K hK _;conv=>whnf)
  all_goals exact ⟨F,.slice none 0 0,F.le_refl,aH.nil,rfl,MemFits.pre 1 rfl⟩
 rw [hr] at cR
 rw [if_pos hr]
 have hf:=Po.right_fits' hr
 have hyf:=Po.spec_fits sw x hf
 have hyt:=Po.spec_tot sw x hf
 have hyr:=Po.spec_right sw x hr
 have hl:∀ s,(Po.runs sw (Po.spec sw x) s).length≤1000:=fun s=>Nat.le_trans (Po.runs_64 sw _ hyr s) (by decide)
 have cA:=pq _ F x pu u sw (Nat.le_refl _) (by omega) hf hx
 have hce:=hce hr
 have hc:=hc hr
 unfold Tr.all
 clear hx hf hr hyr
 generalize Po.spec sw x=y at *
 have cC:=fun G pu u (h:Po.At G y pu u)=>i5 G y pu u (by omega) h
 have cV:=fun G pu u (h:Po.At G y pu u) f (hf : -9223372036854775808≤f∧f≤9223372036854775807)=>dm G y pu u f hf (by omega) h
 have hmo:=fun G G' pu u (h:Heap.le G G') (h2:Po.At G y pu u)=>Po.At.mono h h2
 have hlen:=fun f=>Po.values_len f y
 have kC:=fun G pu u v0 v1 v2 v3 v4 hp h0 h1 h2 h3 h4 b w=>ny G y sw pu u (by omega) hyf hl hc v0 v1 v2 v3 v4 hp h0 h1 h2 h3 h4 b w
 generalize Tr.cases sw y Tr.order Tr.start=C at *
 clear hl hc hyf
 generalize hv0:Po.values 0 y=V0 at *
 generalize hv1:Po.values 1 y=V1 at *
 generalize hv2:Po.values 2 y=V2 at *
 generalize hv3:Po.values 3 y=V3 at *
 generalize hv4:Po.values 4 y=V4 at *
 have cV0:=fun G pu u h=>(hv0 ▸ cV G pu u h 0 (by omega):NCall Tryz.prog 46 [.agg (Po.cs y pu u),.int .i64 0] [hpB G] fun r m=>Srt.Lays G V0 r m)
 have cV1:=fun G pu u h=>(hv1 ▸ cV G pu u h 1 (by omega):NCall Tryz.prog 46 [.agg (Po.cs y pu u),.int .i64 1] [hpB G] fun r m=>Srt.Lays G V1 r m)
 have cV2:=fun G pu u h=>(hv2 ▸ cV G pu u h 2 (by omega):NCall Tryz.prog 46 [.agg (Po.cs y pu u),.int .i64 2] [hpB G] fun r m=>Srt.Lays G V2 r m)
 have cV3:=fun G pu u h=>(hv3 ▸ cV G pu u h 3 (by omega):NCall Tryz.prog 46 [.agg (Po.cs y pu u),.int .i64 3] [hpB G] fun r m=>Srt.Lays G V3 r m)
 have cV4:=fun G pu u h=>(hv4 ▸ cV G pu u h 4 (by omega):NCall Tryz.prog 46 [.agg (Po.cs y pu u),.int .i64 4] [hpB G] fun r m=>Srt.Lays G V4 r m)
 generalize Po.cells y=nc at *
 have hro:=fun (G G':Heap) (v:Value) (l:List Int) (h:G.le G') (h2:Srt.Row G v l)=>(aH.mono h (fun _ _ h=>h) h2:Srt.Row G' v l)
 have hAo:=fun G pu u (h:Po.At G y pu u)=>h.l.ok
 have hAp:=fun G pu u (h:Po.At G y pu u)=>h.p.ok
 clear cV hlen hv0 hv1 hv2 hv3 hv4
 obtain ⟨k,⟨pk,pf,pv,pl⟩,a,v,l⟩:=x
 obtain ⟨yk,⟨ypk,ypf,ypv,ypl⟩,yf,yv,yl⟩:=y
 simp only [Po.cs,Po.Lays,Srt.Lays,Po.T.k,Po.T.l,Po.T.p,Po.T.f,Po.T.v,Pd.T.k,Pd.T.f,Pd.T.v,Pd.T.l,List.cons_append,List.nil_append] at *
 refine aA Tryz.func51 rfl (by decide) ?_
 repeat' first|((try intro K hK);(with_reducible refine gC ?_);first|refine Go.Sx.cS [0] cR ?_|(refine Go.Sx.cN [0] cA ?_;rintro _ _ ⟨F1,pu1,u1,hle1,hA1,rfl,rfl⟩;refine Go.Sx.cR ?_)|refine Go.Sx.cS [0] (cC F1 pu1 u1 hA1) ?_|(refine Go.Sx.cN [0] (cV0 F1 pu1 u1 hA1) ?_;rintro _ _ ⟨G0,w0,hl0,hw0,rfl,rfl⟩;refine Go.Sx.cR ?_)|(refine Go.Sx.cN [0] (cV1 G0 pu1 u1 (hmo _ _ _ _ hl0 hA1)) ?_;rintro _ _ ⟨G1,w1,hl1,hw1,rfl,rfl⟩;refine Go.Sx.cR ?_)|(refine Go.Sx.cN [0] (cV2 G1 pu1 u1 (hmo _ _ _ _ (hl0.trans hl1) hA1)) ?_;rintro _ _ ⟨G2,w2,hl2,hw2,rfl,rfl⟩;refine Go.Sx.cR ?_)|(refine Go.Sx.cN [0] (cV3 G2 pu1 u1 (hmo _ _ _ _ ((hl0.trans hl1).trans hl2) hA1)) ?_;rintro _ _ ⟨G3,w3,hl3,hw3,rfl,rfl⟩;refine Go.Sx.cR ?_)|(refine Go.Sx.cN [0] (cV4 G3 pu1 u1 (hmo _ _ _ _ (((hl0.trans hl1).trans hl2).trans hl3) hA1)) ?_;rintro _ _ ⟨G4,w4,hl4,hw4,rfl,rfl⟩;refine Go.Sx.cR ?_)|(refine Go.Sx.cN [] nR ?_;rintro _ _ ⟨vo,rfl,rfl⟩;refine ⟨rfl,.sl 3 vo 5,rfl,?_⟩;conv=>whnf)|(refine Go.Sx.cN [0,2,3] (kC G4 pu1 u1 w0 w1 w2 w3 w4 (hmo _ _ _ _ ((((hl0.trans hl1).trans hl2).trans hl3).trans hl4) hA1) (hro _ _ _ _ (((hl1.trans hl2).trans hl3).trans hl4) hw0) (hro _ _ _ _ ((hl2.trans hl3).trans hl4) hw1) (hro _ _ _ _ (hl3.trans hl4) hw2) (hro _ _ _ _ hl4 hw3) hw4 _ _) ?_;rintro _ _ ⟨G5,v5,hl5,hw5,rfl,rfl⟩;refine Go.Sx.cR ?_))|((with_reducible refine gX ?_);with_reducible refine bI 6 ?_)|(refine aV [0,2] ?_;try clear hK K)|refine sxW ?_ ?_<;>intro _|refine aW ?_ ?_|(intro K hK _;conv=>whnf)
 all_goals exact ⟨G5,v5,((((hle1.trans hl0).trans hl1).trans hl2).trans hl3).trans (hl4.trans hl5),hw5,rfl,MemFits.pre 1 rfl⟩
namespace Cm
def R (F:Heap) (x:Ru.R) (us:List Value):Prop:=∃ A cap,ARow F (.slice A x.acts.length cap) x.acts∧us=[.int .i64 x.prio,.int .i64 x.m.p,.int .i64 x.m.v0,.int .i64 x.m.v1,.int .i64 x.m.v2,.int .i64 x.m.v3,.int .i64 x.m.m0,.int .i64 x.m.m1,.int .i64 x.m.m2,.int .i64 x.m.m3,.slice A x.acts.length cap]
theorem arow_mono {F G:Heap} (h:F.le G) {v:Value} {l:List Ac.A} (hv:ARow F v l):ARow G v l:=aH.mono h (fun _ _ h=>h) hv
theorem R.mono {F G:Heap} (h:F.le G) {x:Ru.R} {us:List Value} (hc:R F x us):R G x us:=by
 obtain ⟨A,cap,h1,h2⟩:=hc
 exact ⟨A,cap,arow_mono h h1,h2⟩
abbrev Row (F:Heap) (v:Value) (l:List Ru.R):Prop:=aH F 11 (R F) v l
theorem Row.mono {F G:Heap} (h:F.le G) {v:Value} {l:List Ru.R} (hv:Row F v l):Row G v l:=aH.mono h (fun _ _ hp=>R.mono h hp) hv
structure Cell (F:Heap) (v:Value) (i:Nat) (x:Ru.R) (A:Option Addr) (cap:Nat):Prop where
 c0:F.c ((addrOf v).add (i*11)) (.int .i64 x.prio)
 c1:F.c ((addrOf v).add (i*11+1)) (.int .i64 x.m.p)
 c2:F.c ((addrOf v).add (i*11+2)) (.int .i64 x.m.v0)
 c3:F.c ((addrOf v).add (i*11+3)) (.int .i64 x.m.v1)
 c4:F.c ((addrOf v).add (i*11+4)) (.int .i64 x.m.v2)
 c5:F.c ((addrOf v).add (i*11+5)) (.int .i64 x.m.v3)
 c6:F.c ((addrOf v).add (i*11+6)) (.int .i64 x.m.m0)
 c7:F.c ((addrOf v).add (i*11+7)) (.int .i64 x.m.m1)
 c8:F.c ((addrOf v).add (i*11+8)) (.int .i64 x.m.m2)
 c9:F.c ((addrOf v).add (i*11+9)) (.int .i64 x.m.m3)
 c10:F.c ((addrOf v).add (i*11+10)) (.slice A x.acts.length cap)
theorem Row.get {F:Heap} {v:Value} {l:List Ru.R} (h:Row F v l) {i:Nat} {x:Ru.R} (hx:l[i]?=some x):∃ A cap,ARow F (.slice A x.acts.length cap) x.acts∧Cell F v i x A cap:=by
 obtain ⟨us,h1,_,h2⟩:=h.at_ i x hx
 obtain ⟨A,cap,h3,rfl⟩:=h1
 simp only [CellsF,Nat.add_assoc,Nat.reduceAdd] at h2
 obtain ⟨c0,c1,c2,c3,c4,c5,c6,c7,c8,c9,c10,_⟩:=h2
 exact ⟨A,cap,h3,c0,c1,c2,c3,c4,c5,c6,c7,c8,c9,c10⟩
structure L where
 x:Ru.R
 v:Value
def psC (ps:List L):List AV:=ps.flatMap fun p=>p.x.cs p.v
def psV (p:L):List Value:=denL (p.x.cs p.v)
theorem psC_den:∀ ps,denL (psC ps)=ps.flatMap psV
 | []=>rfl
 | p::ps=>by
  have:=psC_den ps
  unfold psC at *
  rw [List.flatMap_cons,List.flatMap_cons,aQ,this]
  rfl
theorem psC_len (ps:List L):(psC ps).length=ps.length*11:=by
 induction ps with
 | nil=>rfl
 | cons p ps ih =>
  unfold psC at *
  rw [List.flatMap_cons,List.length_append,ih,List.length_cons]
  show 11+_=_
  omega
theorem psC_next (ps:List L) (p:L):psC (ps++[p])=psC ps++p.x.cs p.v:=by
 unfold psC
 rw [List.flatMap_append]
 simp
theorem row_of {G:Heap} {u:Value} {ps:List L} (h:aH G 11 (fun p vs=>vs=psV p) u ps) (hall:∀ p∈ps,ARow G p.v p.x.acts):Row G u (ps.map (·.x)):=by
 refine ⟨by rw [List.length_map];exact h.ok,fun k x hx=>?_⟩
 rw [List.getElem?_map] at hx
 cases hp:ps[k]? with
 | none=>rw [hp] at hx;cases hx
 | some p =>
  rw [hp] at hx
  simp only [Option.map_some,Option.some.injEq] at hx
  subst hx
  obtain ⟨vs,h1,h2,h3⟩:=h.at_ k p hp
  have hr:=hall p (List.mem_of_getElem? hp)
  refine ⟨vs,?_,h2,h3⟩
  obtain ⟨A,cap,hv,hle,hz⟩:=hr.ok
  rw [h1]
  obtain ⟨x,w⟩:=p
  dsimp only at hv hr ⊢
  subst hv
  exact ⟨A,cap,hr,rfl⟩
abbrev GivesT (F:Heap) (t:List Ru.R × Int) (r:AV) (m:List Blk):Prop:=∃ G v,F.le G∧Row G v t.1∧SlOk v t.1.length∧r = .tup [.hs v t.1.length,.int .i64 t.2]∧m=[hpB G]
theorem givesT_know {f:FuncId} {args:List AV} {F:Heap} {t:TypeId} {m:List Blk} {T:List Ru.R × Int} (h:NCall Tryz.prog f args m fun r m'=>∃ G v,∃ ps:List L,F.le G∧ps.map (·.x)=T.1∧(∀ p∈ps,ARow G p.v p.x.acts)∧r.den=(AV.tup [.raw (aw v),.int .i64 T.2]).den∧MemFits m' [hpB G,⟨addrOf v,psC ps,.row v t 11 ps.length⟩]) :
  NCall Tryz.prog f args m fun r m'=>GivesT F T r m':=by
 refine Go.Sx.NCall.know h fun r m' ⟨G,u,ps,hle,hmap,hall,hr,hm⟩ ⟨w,hw⟩=>?_
 have hok:=((hm w hw).1.row (List.mem_cons_of_mem _ (List.mem_cons_self ..))).1
 have hrow:=aJ (F:=G) (sz:=11) (enc:=psV) hok (psC_den ps) (fun x _=>rfl)
 have hR:=row_of hrow fun p hp=>arow_mono addF.old (hall p hp)
 rw [hmap] at hR
 refine ⟨.tup [.hs u T.1.length,.int .i64 T.2],_,by rw [hr];rfl,hm.trans (MemFits.freeze (m:=[])),_,u,hle.trans addF.old,hR,hR.ok,rfl,rfl⟩
end Cm
theorem mu (F:Heap) (x:Po.T) (pu u:Value) (sw room:Int) (hs:Po.tot x≤1000000000) (hx:Po.At F x pu u) (hce:Po.right x=true→Po.cells (Po.spec sw x)≤4096) (hc:Po.right x=true→Tr.cnt (Po.spec sw x) Tr.order≤1000000) (hn:(Tr.ans sw x).1.length≤1000) (ho:∀ c∈(Tr.ans sw x).1,c.out.length≤1000) :
  NCall Tryz.prog 21 [.agg (Po.cs x pu u),.int .i64 sw,.int .i64 room] [hpB F] fun r m=>Cm.GivesT F (Cm.tbl (Tr.ans sw x).1 (Tr.ans sw x).2 room) r m:=by
 refine Cm.givesT_know (t:=83) ?_
 have hok:=hx.l.ok
 have hpok:=hx.p.ok
 have cC:=oE F x pu u sw hs hx hce hc
 generalize Tr.ans sw x=a at *
 obtain ⟨C,e⟩:=a
 dsimp only at *
 clear hx hce hc
 have cC:=cC.mono (K':=fun r m=>∃ F' v,F.le F'∧Tr.Row F' v C∧SlOk v C.length∧r = .tup [.hs v C.length,.int .i64 e]∧m=[hpB F']) fun r m ⟨F',v,h1,h2,h3,h4⟩=>⟨F',v,h1,h2,h2.ok,h3,h4⟩
 obtain ⟨k,⟨pk,pf,pv,pl⟩,a,v,l⟩:=x
 simp only [ax,Po.T.l,Po.T.p,Pd.T.k,Pd.T.f,Pd.T.v,Pd.T.l] at *
 refine aA Tryz.func21 rfl (by decide) ?_
 by_cases he:e=0
 rotate_left
 ·have ht:Cm.tbl C e room=([],e):=by unfold Cm.tbl;rw [if_pos he]
  rw [ht]
  repeat' first|(intro K hK;(with_reducible refine gC ?_);(refine cN [0] cC ?_;rintro _ _ ⟨F2,w,hle,hw,hwo,rfl,rfl⟩;refine cR ?_))|(refine sxZ ?_;try clear hK K)|refine sxW ?_ ?_<;>intro _|(intro K hK _;conv=>whnf)
  all_goals first | (exfalso;omega) | exact ⟨F2,.slice none 0 0,[],hle,rfl,fun p hp=>(by cases hp),rfl,(MemFits.pre 1 rfl).trans (MemFits.nilRow _ _ _)⟩
 subst he
 repeat' first|(intro K hK;(with_reducible refine gC ?_);(refine cN [0] cC ?_;rintro _ _ ⟨F2,w,hle,hw,hwo,rfl,rfl⟩;refine cR ?_))|(refine sxZ ?_;try clear hK K)|refine sxW ?_ ?_<;>intro _|(intro K hK _;conv=>whnf)
 all_goals try (exfalso;omega)
 refine aD (α:=Heap × Value × List Cm.L × Nat) (fun (G,v,ps,i)=>i≤C.length∧F2.le G∧ps.map (·.x)=Cm.rules C.length 0 (C.take i)∧(∀ p∈ps,Cm.ARow G p.v p.x.acts)∧Cm.scan (C.take i)=0) (fun (G,v,ps,i)=>[.k,.k,.k,.k,.k,.k,.d,.d,.k,.k,.set (.sl 2 v ps.length),.d,.d,.d,.d,.k,.k,.k,.k,.k,.k,.k,.k,.k,.k,.k,.set (.int .i64 i),.d,.d,.d,.d,.d,.d,.d,.d,.d,.d,.d,.d,.d,.d,.d,.d,.d,.d,.d,.d,.d,.d,.d,.d,.k,.k,.k,.k,.k,.k,.k,.k,.k,.k])
  (fun (G,v,ps,i)=>[.set (hpB G),.k,.set ⟨addrOf v,Cm.psC ps,.row v 83 11 ps.length⟩]) (fun (G,v,ps,i)=>C.length - i) (F2,.slice none 0 0,[],0) ⟨Nat.zero_le _,F2.le_refl,rfl,fun p hp=>(by cases hp),rfl⟩ ?_ ?_ ?_
 ·exact aC
 ·exact (MemFits.nilRow _ 83 11).trans (MemFits.congr rfl)
 (intro ⟨G,v,ps,i⟩ ⟨hi,hle2,hmap,hall,hsc⟩;intro K hK;(conv=>whnf);refine hK _ _ ?_;clear hK K)
 dsimp only at hi hle2 hmap hall hsc ⊢
 have hpl:ps.length=i:=by
  have:=congrArg List.length hmap
  rw [List.length_map,Cm.rules_len,List.length_take,Nat.min_eq_left hi] at this
  exact this
 by_cases hlt:i<C.length
 ·have hwG:=Tr.Row.mono hle2 hw
  obtain ⟨A,cap,hA,c0,c1,c2,c3,c4,c5⟩:=hwG.get (List.getElem?_eq_getElem hlt)
  have hol:=ho C[i] (List.getElem_mem hlt)
  have ca:=pz G C[i] (.slice A C[i].out.length cap) hA hol
  simp only [Cm.Gives] at ca
  have cq:=qt C[i] (.slice A C[i].out.length cap)
  have hs1:=Cm.scan_at hlt hsc
  have hs2:=Cm.scan_next hlt hsc
  have hrn:=Cm.rules_next C.length C hlt
  have hpc:=Cm.psC_len ps
  have hnx:=fun q=>Cm.psC_next ps q
  rw [← hmap] at hrn
  by_cases hae:(Cm.acts C[i]).2=0
  ·have hs3:=hs2 hae
   clear hs2
   have ecs:∀ v:Value,(Cm.rule C.length i C[i]).cs v=[.int .i64 ((C.length - i:Nat):Int),.int .i64 (Cm.mt C[i].s).p,.int .i64 (Cm.mt C[i].s).v0,.int .i64 (Cm.mt C[i].s).v1,.int .i64 (Cm.mt C[i].s).v2,.int .i64 (Cm.mt C[i].s).v3,.int .i64 (Cm.mt C[i].s).m0,.int .i64 (Cm.mt C[i].s).m1,.int .i64 (Cm.mt C[i].s).m2,.int .i64 (Cm.mt C[i].s).m3,.hs v (Cm.acts C[i]).1.length]:=fun _=>rfl
   have era:(Cm.rule C.length i C[i]).acts=(Cm.acts C[i]).1:=rfl
   have epr:((C.length - i:Nat):Int)=(C.length:Int) - i:=by omega
   rw [epr] at ecs
   unfold Mt.M.av at cq
   generalize Cm.rule C.length i C[i]=rl at *
   generalize C[i]=c at *
   generalize Cm.mt c.s=mm at *
   generalize Cm.acts c=ac at *
   obtain ⟨al,ae⟩:=ac
   obtain ⟨⟨s0,s1,s2,s3,s4⟩,O⟩:=c
   dsimp only at *
   subst hae
   simp only [Tr.cs] at *
   generalize Cm.psC ps=pc at *
   repeat' first|(intro K hK;(with_reducible refine gC ?_);first|(refine cN [0] ca ?_;rintro _ _ ⟨G2,v2,h1,h2,h3,rfl,rfl⟩;refine cR ?_)|refine cP cq ?_)|(refine sxZ ?_;try clear hK K)|refine sxW ?_ ?_<;>intro _|(intro K hK _;conv=>whnf)
   all_goals try (exfalso;omega)
   all_goals
    rename_i w2
    refine aB (G2,w2,ps++[⟨rl,v2⟩],i+1) ⟨hlt,hle2.trans h1,by rw [List.map_append,hrn];rfl,fun p hp=>?_,hs3⟩ (by show C.length - (i+1)<C.length - i;omega) ?_ (MemFits.pre 3 ?_)
    ·rcases List.mem_append.1 hp with hp | hp
     ·exact Cm.arow_mono h1 (hall p hp)
     ·rw [List.mem_singleton.1 hp]
      show Cm.ARow G2 v2 rl.acts
      rw [era]
      exact h2
    ·dsimp only
     rw [List.length_append]
     exact aC
    ·dsimp only [autoM]
     rw [hnx,ecs,List.length_append]
     rfl
  ·have ht:Cm.tbl C 0 room=([],(Cm.acts C[i]).2):=by
    unfold Cm.tbl
    rw [if_neg (by simp),hs1 hae,if_pos hae]
   rw [ht]
   generalize C[i]=c at *
   generalize Cm.acts c=ac at *
   obtain ⟨al,ae⟩:=ac
   obtain ⟨⟨s0,s1,s2,s3,s4⟩,O⟩:=c
   dsimp only at *
   simp only [Tr.cs] at *
   repeat' first|(intro K hK;(with_reducible refine gC ?_);(refine cN [0] ca ?_;rintro _ _ ⟨G2,v2,h1,h2,h3,rfl,rfl⟩;refine cR ?_))|(refine sxZ ?_;try clear hK K)|refine sxW ?_ ?_<;>intro _|(intro K hK _;conv=>whnf)
   all_goals first | (exfalso;omega) | exact ⟨G2,.slice none 0 0,[],(hle.trans hle2).trans h1,rfl,fun p hp=>(by cases hp),rfl,(MemFits.pre 1 rfl).trans (MemFits.nilRow _ _ _)⟩
 ·obtain rfl:i=C.length:=by omega
  rw [List.take_length] at hmap hsc
  have ht:Cm.tbl C 0 room=if (C.length:Int)>room then ([],6) else (Cm.rules C.length 0 C,0):=by
   unfold Cm.tbl
   rw [if_neg (by simp),hsc,if_neg (by simp)]
  by_cases hr:(C.length:Int)>room
  ·rw [ht,if_pos hr]
   repeat' first|(refine sxZ ?_;try clear hK K)|refine sxW ?_ ?_<;>intro _|(intro K hK _;conv=>whnf)
   all_goals first | (exfalso;omega) | exact ⟨G,.slice none 0 0,[],hle.trans hle2,rfl,fun p hp=>(by cases hp),rfl,(MemFits.pre 1 rfl).trans (MemFits.nilRow _ _ _)⟩
  ·rw [ht,if_neg hr]
   repeat' first|(refine sxZ ?_;try clear hK K)|refine sxW ?_ ?_<;>intro _|(intro K hK _;conv=>whnf)
   all_goals first | (exfalso;omega) | exact ⟨G,v,ps,hle.trans hle2,hmap,hall,rfl,MemFits.pick [0,2] (by decide) rfl⟩
end Go.Proofs.YtmehinfgdcmmjaaGreat
