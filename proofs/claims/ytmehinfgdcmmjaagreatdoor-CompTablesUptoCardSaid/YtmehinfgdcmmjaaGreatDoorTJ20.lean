/- A part of the proof. -/
import Derived.Test.YtmehinfgdcmmjaaGreatDoorTJ18
import Derived.Test.YtmehinfgdcmmjaaGreatDoorTJ4
import Derived.Test.YtmehinfgdcmmjaaGreatDoorTPo8
namespace Go.Proofs.YtmehinfgdcmmjaaGreatDoor
open Go.Sx
set_option maxRecDepth 20000
set_option linter.unusedSimpArgs false
set_option linter.unusedVariables false
set_option maxHeartbeats 4000000
theorem mX (b:Bool):Qz Tryz.prog 145 [.bool b] [] fun r _=>r = .agg [.int .i64 (if b then 1 else 2),.int .i64 0,.int .i64 0,.raw (.slice none 0 0)]:=by
 refine aB Tryz.func145 rfl (by decide) ?_
 cases b
 iterate 2
  ·repeat' first|(refine sxZ ?_;try clear hK K)|refine sxW ?_ ?_<;>intro _|(intro K hK _;conv=>whnf)
   all_goals rfl
theorem iQ (F:Heap) (k f v out d:Int) (w:Value) (ps:List (Pd.T × Value)) (hn:ps.length≤1000000000000) (hall:∀ p∈ps,Pd.Row F p.2 p.1.l) :
  Qz Tryz.prog 146 [.agg [.int .i64 k,.int .i64 f,.int .i64 v,.sl 1 w ps.length],.int .i64 out,.int .i64 d] [hpB F,⟨addrOf w,Pd.psC ps,.row w 39 4 ps.length⟩] fun r m=>∃ F' u,F.le F'∧Pd.Row F' u (Pd.fold k f v out d (ps.map (·.1))).l∧r = .agg (Pd.cs (Pd.fold k f v out d (ps.map (·.1))) u)∧m=[hpB F',hpB noHeap]:=by
 refine (Pd.out_know (o5 F k f v out d w ps hn hall)).fits fun r m' hr=>?_
 obtain ⟨F',u,h1,h2,h3,rfl⟩:=hr
 exact ⟨r,_,rfl,(Qw.noHeap _).trans (Qw.pick [1,0] (by decide) rfl),F',u,h1,h2,h3,rfl⟩
theorem jD:∀ (n:Nat) (F:Heap) (p:Pd.T) (u:Value) (sw:Int),Pd.size p≤n→Pd.size p≤1000000000000→Pd.fits p=true→Pd.Row F u p.l →
  Qz Tryz.prog 102 [.agg (Pd.cs p u),.int .i64 sw] [hpB F] fun r m=>Pd.Lays F (Pd.cut sw p) r m
 | 0,F,p,u,sw,hn,_,_,_=>absurd (Pd.size_pos p) (by omega)
 | n+1,F,⟨k,f,v,l⟩,u,sw,hn,hs,hf,hu=>by
  refine Pd.out_know (t:=39) ?_
  have hu:Pd.Row F u l:=hu
  have hok:=hu.ok
  obtain ⟨hsh,hfl⟩:=Pd.fits_mk hf
  have hl12:l.length≤1000000000000:=by have:=Pd.size_mk k f v l;have:=Pd.length_le l;omega
  have hll:=Pd.length_le l
  have ih:∀ G,∀ x∈l,∀ w,Pd.Row G w x.l→Qz Tryz.prog 102 [.agg (Pd.cs x w),.int .i64 sw] [hpB G] fun r m=>Pd.Lays G (Pd.cut sw x) r m:=fun G x hx w hw=>jD n G x w sw (by have:=Pd.size_lt (k:=k) (f:=f) (v:=v) hx;omega) (by have:=Pd.size_lt (k:=k) (f:=f) (v:=v) hx;omega) (hfl x hx) hw
  have ct:=mX
  have hone:∀ y∈l,1≤(Pd.cut sw y).k:=fun y hy=>(Pd.fits_k (Pd.cut_fits sw y (hfl y hy))).1
  rw [pd_cs]
  by_cases h35:k=3∧f=5
  ·obtain ⟨rfl,rfl⟩:=h35
   rw [Pd.cut_sw]
   refine aB Tryz.func102 rfl (by decide) ?_
   have ct:=ct (decide (v=sw))
   simp only [decide_eq_true_eq] at ct
   repeat' first|((try intro K hK);(with_reducible refine gC ?_);refine cP ct ?_)|((first|intro A B hA hB|intro K hK|skip);first|((with_reducible refine NIf.yes ?s ?_);(case s=>simp ;done);conv=>whnf)|((with_reducible refine NIf.no ?s ?_);(case s=>simp ;done);conv=>whnf))|(refine sxZ ?_;(try clear hK K);try clear hA hB A B)|refine sxW ?_ ?_<;>intro _|(intro K hK _;conv=>whnf)
   all_goals exact .inr ⟨F,.slice none 0 0,F.le_refl,⟨SlOk.nil,fun k x hx=>by simp [Pd.T.l] at hx⟩,rfl,Qw.pre 1 rfl⟩
  by_cases h13:k≤3
  ·have hl0:l=[]:=List.eq_nil_of_length_eq_zero (by omega)
   subst hl0
   rw [Pd.cut_no _ _ _ _ h35 (by omega)]
   clear ih hone ct hll
   rw [List.length_nil] at *
   refine aB Tryz.func102 rfl (by decide) ?_
   repeat' first|((with_reducible refine gX ?_);with_reducible refine bQ 1 ?_)|(refine sxZ ?_;try clear hK K)|refine sxW ?_ ?_<;>intro _|(intro K hK _;conv=>whnf)
   all_goals first
    | exact .inr ⟨F,.slice none 0 0,F.le_refl,⟨SlOk.nil,fun k x hx=>by simp [Pd.T.l] at hx⟩,rfl,Qw.pre 1 rfl⟩
    | (exfalso;omega)
  refine aB Tryz.func102 rfl (by decide) ?_
  have h3:¬ k=3:=by omega
  repeat' first|(refine sxZ ?_;try clear hK K)|refine sxW ?_ ?_<;>intro _|(intro K hK _;conv=>whnf)
  refine aE (α:=Heap × Value × List (Pd.T × Value)) (fun (G,w,ps)=>F.le G∧ps.map (·.1)=(l.take ps.length).map (Pd.cut sw)∧ps.length≤l.length∧∀ p∈ps,Pd.Row G p.2 p.1.l) (fun (G,w,ps)=>[.k,.k,.k,.k,.k,.k,.k,.d,.k,.k,.k,.k,.k,.k,.k,.k,.k,.k,.k,.k,.k,.k,.k,.k,.k,.k,.k,.k,.k,.k,.k,.set (.int .i64 ps.length),.d,.d,.d,.d,.d,.d,.d,.d,.d,.d,.d,.d,.k,.k,.k,.k,.k,.k,.k,.k,.k,.k,.k,.k,.k,.k,.k,.k,.k,.k,.k,.k,.k,.k,.k,.k,.k,.k,.k,.k,.k,.k,.k,.k])
   (fun (G,w,ps)=>[.set (hpB G),.k,.k,.cells [.int .i64 k,.int .i64 f,.int .i64 v,.sl 4 w ps.length],.set ⟨addrOf w,Pd.psC ps,.row w 39 4 ps.length⟩]) (fun (G,w,ps)=>l.length - ps.length) (F,.slice none 0 0,[]) ⟨F.le_refl,rfl,Nat.zero_le _,fun p hp=>by simp at hp⟩ ?_ ((Qw.nilRow _ 39 4).trans (Qw.congr rfl)) ?_
  ·exact aD
  (intro ⟨G,w,ps⟩ ⟨hle,hmap,hlen,hall⟩;intro K hK;(conv=>whnf);refine hK _ _ ?_;clear hK K)
  dsimp only
  generalize hk:ps.length=i at *
  by_cases hlt:i<l.length
  ·have hx:l[i]?=some l[i]:=List.getElem?_eq_getElem hlt
   obtain ⟨A,cap,hA,c0,c1,c2,c3⟩:=(Pd.Row.mono hle hu).get hx
   have hmem:=List.mem_of_getElem? hx
   have c:=ih G _ hmem _ hA
   have hnx:(l.take (i+1)).map (Pd.cut sw)=(l.take i).map (Pd.cut sw)++[Pd.cut sw l[i]]:=by rw [List.take_add_one,hx,List.map_append];rfl
   clear ih
   generalize Pd.cut sw l[i]=y at *
   generalize l[i]=x at *
   have hpl:=Pd.psC_len ps
   have hpn:=Pd.psC_next ps
   generalize hpc:Pd.psC ps=pc at *
   obtain ⟨xk,xf,xv,xl⟩:=x
   obtain ⟨yk,yf,yv,yl⟩:=y
   simp only [Pd.Lays,Pd.cs,Pd.T.k,Pd.T.f,Pd.T.v,Pd.T.l] at c c0 c1 c2 c3 hA
   repeat' first|(intro K hK;(with_reducible refine gC ?_);(refine cN [0] c ?_;rintro _ _ ⟨G',w',hle2,hrow,rfl,rfl⟩;refine cR ?_))|(refine sxO ?_;try clear hK K)|refine sxW ?_ ?_<;>intro _|refine sxV ?_ ?_|(intro K hK _;conv=>whnf)
   all_goals
    rename_i v9
    refine aC (G',v9,ps++[(⟨yk,yf,yv,yl⟩,w')]) ⟨hle.trans hle2,by rw [List.map_append,hmap,List.length_append,hk];exact hnx.symm,by rw [List.length_append,hk];exact hlt,fun x hx=>?_⟩ (by rw [List.length_append,hk];show l.length - (i+1)<l.length - i;omega) ?_ (Qw.pre 5 ?_)
    ·rcases List.mem_append.1 hx with hx | hx
     ·exact Pd.Row.mono hle2 (hall x hx)
     ·rw [List.mem_singleton.1 hx];exact hrow
    ·simp only [List.length_append,hk]
     exact aD
    ·simp only [autoM,List.take,List.length_append,hk,hpn]
     rw [show i+[((⟨yk,yf,yv,yl⟩:Pd.T),w')].length=i+1 from rfl]
     rfl
  ·have hkl:i=l.length:=by omega
   subst hkl
   rw [List.take_length] at hmap
   have hk5:k=5∨k=6→f=0∧v=0:=fun h=>by omega
   have hl1:k=4→f=0∧v=0∧l.length=1:=fun h=>by omega
   have hk456:k=4∨k=5∨k=6:=by omega
   clear ih hsh hn
   by_cases h5:k=5
   ·subst h5
    obtain ⟨rfl,rfl⟩:=hk5 (.inl rfl)
    clear hk5 hl1 hk456 h35 h13 h3
    have cf:=iQ G 5 0 0 1 2 w ps (by omega) hall
    rw [Pd.cut_5,← hmap]
    rw [hk] at cf
    generalize Pd.fold 5 0 0 1 2 (ps.map (·.1))=y at *
    obtain ⟨yk,yf,yv,yl⟩:=y
    simp only [Pd.cs,Pd.T.k,Pd.T.f,Pd.T.v,Pd.T.l] at cf
    repeat' first|(intro K hK;(with_reducible refine gC ?_);(refine cN [0,4] cf ?_;rintro _ _ ⟨F',w',hle2,hrow,rfl,rfl⟩;refine cR ?_))|(refine sxZ ?_;try clear hK K)|refine sxW ?_ ?_<;>intro _|(intro K hK _;conv=>whnf)
    all_goals exact .inr ⟨F',w',hle.trans hle2,hrow,rfl,Qw.pre 1 rfl⟩
   by_cases h6:k=6
   ·subst h6
    obtain ⟨rfl,rfl⟩:=hk5 (.inr rfl)
    clear hk5 hl1 hk456 h35 h13 h3 h5
    have cf:=iQ G 6 0 0 2 1 w ps (by omega) hall
    rw [Pd.cut_6,← hmap]
    rw [hk] at cf
    generalize Pd.fold 6 0 0 2 1 (ps.map (·.1))=y at *
    obtain ⟨yk,yf,yv,yl⟩:=y
    simp only [Pd.cs,Pd.T.k,Pd.T.f,Pd.T.v,Pd.T.l] at cf
    repeat' first|(intro K hK;(with_reducible refine gC ?_);(refine cN [0,4] cf ?_;rintro _ _ ⟨F',w',hle2,hrow,rfl,rfl⟩;refine cR ?_))|(refine sxZ ?_;try clear hK K)|refine sxW ?_ ?_<;>intro _|(intro K hK _;conv=>whnf)
    all_goals exact .inr ⟨F',w',hle.trans hle2,hrow,rfl,Qw.pre 1 rfl⟩
   by_cases h4:k=4
   ·subst h4
    obtain ⟨rfl,rfl,hl1⟩:=hl1 rfl
    clear hk5 hk456 h35 h13 h3 h5 h6
    match l,hl1,ps,hk,hmap with
    | [q],_,[(⟨yk,yf,yv,yl⟩,w')],_,hmap =>
     have hc:Pd.cut sw q=⟨yk,yf,yv,yl⟩:=by simpa using hmap.symm
     have h1:=hone q (by simp)
     rw [Pd.cut_4,hc]
     rw [hc] at h1
     have hps:Pd.psC [((⟨yk,yf,yv,yl⟩:Pd.T),w')]=[.int .i64 yk,.int .i64 yf,.int .i64 yv,.hs w' yl.length]:=rfl
     rw [hps]
     simp only [Pd.T.k] at h1
     by_cases hy:yk≤2
     ·rw [if_pos (show (Pd.T.mk yk yf yv yl).k≤2 from hy)]
      have ct:=ct (decide (yk=2))
      simp only [decide_eq_true_eq] at ct
      repeat' first|(intro K hK;(with_reducible refine gC ?_);refine cP ct ?_)|(refine sxZ ?_;try clear hK K)|refine sxW ?_ ?_<;>intro _|(intro K hK _;conv=>whnf)
      all_goals exact .inr ⟨G,.slice none 0 0,hle,⟨SlOk.nil,fun k x hx=>by simp [Pd.T.l] at hx⟩,rfl,Qw.pre 1 rfl⟩
     ·rw [if_neg (show ¬ (Pd.T.mk yk yf yv yl).k≤2 from hy)]
      repeat' first|(refine sxZ ?_;try clear hK K)|refine sxW ?_ ?_<;>intro _|(intro K hK _;conv=>whnf)
      all_goals exact .inl ⟨G,w,[(⟨yk,yf,yv,yl⟩,w')],hle,rfl,hall,rfl,Qw.pick [0,4] (by decide) rfl⟩
   ·exfalso;omega
namespace Po
theorem psC_cons (p:L) (ps:List L):psC (p::ps)=cs p.x p.pu p.u++psC ps:=rfl
def Out (F:Heap) (t:TypeId) (X:T) (v:AV) (m:List Blk):Prop :=
 Got F t X v m∨∃ G pu u,F.le G∧At G X pu u∧v.den=(AV.agg (cs X pu u)).den∧Qw m [hpB G]
theorem out_know {f:FuncId} {args:List AV} {F:Heap} {t:TypeId} {m:List Blk} {X:T} (h:Qz Tryz.prog f args m fun v m'=>Out F t X v m') :
  Qz Tryz.prog f args m fun v m'=>Lays F X v m':=by
 refine Go.Sx.Qz.know h fun r m' hq ⟨w,hw⟩=>?_
 rcases hq with ⟨G,pu,u,ps,hle,hmap,hall,hpr,hr,hm⟩ | ⟨G,pu,u,hle,hat,hr,hm⟩
 ·have hok:=((hm w hw).1.row (List.mem_cons_of_mem _ (List.mem_cons_self ..))).1
  have hrow:=aM (F:=G) (sz:=8) (enc:=psV) hok (psC_den ps) (fun x _=>rfl)
  refine ⟨_,_,hr.symm,hm.trans (Qw.freeze (m:=[])),_,pu,u,hle.trans addF.old,⟨Pd.Row.mono addF.old hpr,?_⟩,rfl,rfl⟩
  rw [← hmap]
  exact row_of hrow fun p hp=>At.mono addF.old (hall p hp)
 ·exact ⟨_,_,hr.symm,hm,G,pu,u,hle,hat,rfl,rfl⟩
theorem nilRow (F:Heap):Row F (.slice .none 0 0) []:=⟨SlOk.nil,fun k x hx=>by simp at hx⟩
end Po
theorem Pd.nilRow (F:Heap):Pd.Row F (.slice .none 0 0) []:=⟨SlOk.nil,fun k x hx=>by simp at hx⟩
theorem pW (F:Heap) (k f v:Int) (p:Pd.T) (l:List Po.T) (pu u:Value) (sw:Int) (hkk:¬ (k=1∨k=5)) (hs:Pd.size p≤1000000000000) (hl:l.length≤8) (h5:k=5→l.length=2) (hpf:(k=1∨k=5)→Pd.fits p=true) (hu:Po.Row F u l) (hpu:Pd.Row F pu p.l)
  (ih:∀ G,∀ y∈l,∀ pw w,Po.At G y pw w→Qz Tryz.prog 55 [.agg (Po.cs y pw w),.int .i64 sw] [hpB G] fun r m=>Po.Lays G (Po.spec sw y) r m) :
  Qz Tryz.prog 55 [.agg (Po.cs (.mk k p f v l) pu u),.int .i64 sw] [hpB F] fun r m=>Po.Out F 42 (Po.spec sw (.mk k p f v l)) r m:=by
 have hok:=hu.ok
 have hpok:=hpu.ok
 rw [Po.spec_mk,if_neg (fun h=>hkk (.inr h.1)),if_neg hkk]
 rw [aY]
 have hk1:¬ k=1:=fun h=>hkk (.inl h)
 have hk5:¬ k=5:=fun h=>hkk (.inr h)
 clear hpf h5 hkk
 obtain ⟨pk,pf,pv,pl⟩:=p
 simp only [pd_cs,Pd.T.k,Pd.T.f,Pd.T.v,Pd.T.l] at *
 refine aB Tryz.func55 rfl (by decide) ?_
 repeat' first|(refine sxZ ?_;try clear hK K)|refine sxW ?_ ?_<;>intro _|(intro K hK _;conv=>whnf)
 all_goals
  refine aE (α:=Heap × Value × List Po.L) (fun (G,w,ps)=>F.le G∧ps.map (·.x)=(l.take ps.length).map (Po.spec sw)∧ps.length≤l.length∧∀ p∈ps,Po.At G p.x p.pu p.u) (fun (G,w,ps)=>[.k,.k,.k,.k,.k,.k,.k,.d,.k,.k,.k,.k,.k,.k,.k,.k,.k,.k,.k,.k,.k,.k,.k,.k,.k,.k,.k,.k,.k,.k,.k,.set (.int .i64 ps.length),.d,.d,.d,.d,.d,.d,.d,.d,.d,.d,.d,.d,.k,.k,.k,.k,.k,.k,.k,.k,.k,.k,.k,.k,.k,.k,.k,.k,.k,.k])
   (fun (G,w,ps)=>[.set (hpB G),.k,.k,.cells [.int .i64 k,.int .i64 0,.int .i64 0,.int .i64 0,.raw (.slice .none 0 0),.int .i64 f,.int .i64 v,.sl 4 w ps.length],.set ⟨addrOf w,Po.psC ps,.row w 42 8 ps.length⟩]) (fun (G,w,ps)=>l.length - ps.length) (F,.slice .none 0 0,[]) ⟨F.le_refl,rfl,Nat.zero_le _,fun p hp=>by simp at hp⟩ ?_ ((Qw.nilRow _ 42 8).trans (Qw.congr rfl)) ?_
  ·exact aD
  (intro ⟨G,w,ps⟩ ⟨hle,hmap,hlen,hall⟩;intro K hK;(conv=>whnf);refine hK _ _ ?_;clear hK K)
  dsimp only
  generalize hk:ps.length=i at *
  by_cases hlt:i<l.length
  ·have hx:l[i]?=some l[i]:=List.getElem?_eq_getElem hlt
   obtain ⟨pA,pcap,A,cap,hA,c0,c1,c2,c3,c4,c5,c6,c7⟩:=(Po.Row.mono hle hu).get hx
   have hAo:=hA.l.ok
   have hAp:=hA.p.ok
   have hmem:=List.mem_of_getElem? hx
   have c:=ih G _ hmem _ _ hA
   have hnx:(l.take (i+1)).map (Po.spec sw)=(l.take i).map (Po.spec sw)++[Po.spec sw l[i]]:=by rw [List.take_add_one,hx,List.map_append];rfl
   clear ih
   generalize Po.spec sw l[i]=z at *
   generalize l[i]=y at *
   have hpl:=Po.psC_len ps
   have hpn:=Po.psC_next ps
   generalize hpc:Po.psC ps=pc at *
   obtain ⟨yk,⟨ypk,ypf,ypv,ypl⟩,yf,yv,yl⟩:=y
   obtain ⟨zk,⟨zpk,zpf,zpv,zpl⟩,zf,zv,zl⟩:=z
   simp only [Po.Lays,Po.cs,Po.T.k,Po.T.p,Po.T.f,Po.T.v,Po.T.l,Pd.T.k,Pd.T.f,Pd.T.v,Pd.T.l] at c c0 c1 c2 c3 c4 c5 c6 c7 hAo hAp
   repeat' first|(intro K hK;(with_reducible refine gC ?_);(refine cN [0] c ?_;rintro _ _ ⟨G',pw',w',hle2,hrow,rfl,rfl⟩;refine cR ?_))|(refine sxO ?_;try clear hK K)|refine sxW ?_ ?_<;>intro _|refine sxV ?_ ?_|(intro K hK _;conv=>whnf)
   all_goals
    rename_i v9
    refine aC (G',v9,ps++[⟨.mk zk (.mk zpk zpf zpv zpl) zf zv zl,pw',w'⟩]) ⟨hle.trans hle2,by rw [List.map_append,hmap,List.length_append,hk];exact hnx.symm,by rw [List.length_append,hk];exact hlt,fun x hx=>?_⟩ (by rw [List.length_append,hk];show l.length - (i+1)<l.length - i;omega) ?_ (Qw.pre 5 ?_)
    ·rcases List.mem_append.1 hx with hx | hx
     ·exact Po.At.mono hle2 (hall x hx)
     ·rw [List.mem_singleton.1 hx];exact hrow
    ·simp only [List.length_append,hk]
     exact aD
    ·simp only [autoM,List.take,List.length_append,hk,hpn]
     rw [show i+[(⟨.mk zk (.mk zpk zpf zpv zpl) zf zv zl,pw',w'⟩:Po.L)].length=i+1 from rfl]
     rfl
  ·have hkl:i=l.length:=by omega
   subst hkl
   rw [List.take_length] at hmap
   clear ih
   repeat' first|(refine sxZ ?_;try clear hK K)|refine sxW ?_ ?_<;>intro _|(intro K hK _;conv=>whnf)
   all_goals exact .inl ⟨G,.slice .none 0 0,w,ps,hle,hmap,hall,Pd.nilRow G,by simp only [Po.cs,Po.T.k,Po.T.p,Po.T.f,Po.T.v,Po.T.l,Pd.T.k,Pd.T.f,Pd.T.v,Pd.T.l,List.length_map];rfl,by rw [hk];exact Qw.pick [0,4] (by decide) rfl⟩
theorem pY (F:Heap) (k f v:Int) (p:Pd.T) (l:List Po.T) (pu u:Value) (sw:Int) (hkk:k=1) (hs:Pd.size p≤1000000000000) (hl:l.length≤8) (h5:k=5→l.length=2) (hpf:(k=1∨k=5)→Pd.fits p=true) (hu:Po.Row F u l) (hpu:Pd.Row F pu p.l)
  (ih:∀ G,∀ y∈l,∀ pw w,Po.At G y pw w→Qz Tryz.prog 55 [.agg (Po.cs y pw w),.int .i64 sw] [hpB G] fun r m=>Po.Lays G (Po.spec sw y) r m) :
  Qz Tryz.prog 55 [.agg (Po.cs (.mk k p f v l) pu u),.int .i64 sw] [hpB F] fun r m=>Po.Out F 42 (Po.spec sw (.mk k p f v l)) r m:=by
 have hok:=hu.ok
 have hpok:=hpu.ok
 have hk15:k=1∨k=5:=by omega
 have cp:=jD _ F p pu sw (Nat.le_refl _) hs (hpf hk15) hpu
 have hq0:=Pd.fits_k (Pd.cut_fits sw p (hpf hk15))
 have hX1:k=5→(Pd.cut sw p).k≤2→Po.spec sw (.mk k p f v l)=(l.map (Po.spec sw))[((Pd.cut sw p).k - 1).toNat]?.getD Po.zero:=fun h1 h2=>by rw [Po.spec_mk,if_pos ⟨h1,h2⟩]
 have hX2:¬ (k=5∧(Pd.cut sw p).k≤2)→Po.spec sw (.mk k p f v l) = .mk k (Pd.cut sw p) f v (l.map (Po.spec sw)):=fun h=>by rw [Po.spec_mk,if_neg h,if_pos hk15]
 generalize Po.spec sw (.mk k p f v l)=X at *
 generalize Pd.cut sw p=q at *
 rw [aY]
 clear hpf hk15
 obtain ⟨pk,pf,pv,pl⟩:=p
 obtain ⟨qk,qf,qv,ql⟩:=q
 simp only [Pd.Lays,pd_cs,Pd.T.k,Pd.T.f,Pd.T.v,Pd.T.l] at *
 subst hkk
 refine aB Tryz.func55 rfl (by decide) ?_
 repeat' first|(intro K hK;(with_reducible refine gC ?_);(refine cN [0] cp ?_;rintro _ _ ⟨F1,pu1,hle1,hpu1,rfl,rfl⟩;refine cR ?_))|(refine sxZ ?_;try clear hK K)|refine sxW ?_ ?_<;>intro _|(intro K hK _;conv=>whnf)
 all_goals
  have hpok1:=hpu1.ok
  refine aE (α:=Heap × Value × List Po.L) (fun (G,w,ps)=>F1.le G∧ps.map (·.x)=(l.take ps.length).map (Po.spec sw)∧ps.length≤l.length∧∀ p∈ps,Po.At G p.x p.pu p.u) (fun (G,w,ps)=>[.k,.k,.k,.k,.k,.k,.k,.d,.k,.k,.k,.k,.k,.k,.k,.k,.k,.k,.k,.k,.k,.k,.k,.k,.k,.k,.k,.k,.k,.k,.k,.set (.int .i64 ps.length),.d,.d,.d,.d,.d,.d,.d,.d,.d,.d,.d,.d,.k,.k,.k,.k,.k,.k,.k,.k,.k,.k,.k,.k,.k,.k,.k,.k,.k,.k])
   (fun (G,w,ps)=>[.set (hpB G),.k,.k,.cells [.int .i64 1,.int .i64 qk,.int .i64 qf,.int .i64 qv,.hs pu1 ql.length,.int .i64 f,.int .i64 v,.sl 4 w ps.length],.set ⟨addrOf w,Po.psC ps,.row w 42 8 ps.length⟩]) (fun (G,w,ps)=>l.length - ps.length) (F1,.slice .none 0 0,[]) ⟨F1.le_refl,rfl,Nat.zero_le _,fun p hp=>by simp at hp⟩ ?_ ((Qw.nilRow _ 42 8).trans (Qw.congr rfl)) ?_
  ·exact aD
  (intro ⟨G,w,ps⟩ ⟨hle,hmap,hlen,hall⟩;intro K hK;(conv=>whnf);refine hK _ _ ?_;clear hK K)
  dsimp only
  generalize hk:ps.length=i at *
  by_cases hlt:i<l.length
  ·have hx:l[i]?=some l[i]:=List.getElem?_eq_getElem hlt
   obtain ⟨pA,pcap,A,cap,hA,c0,c1,c2,c3,c4,c5,c6,c7⟩:=(Po.Row.mono (hle1.trans hle) hu).get hx
   have hAo:=hA.l.ok
   have hAp:=hA.p.ok
   have hmem:=List.mem_of_getElem? hx
   have c:=ih G _ hmem _ _ hA
   have hnx:(l.take (i+1)).map (Po.spec sw)=(l.take i).map (Po.spec sw)++[Po.spec sw l[i]]:=by rw [List.take_add_one,hx,List.map_append];rfl
   clear ih
   generalize Po.spec sw l[i]=z at *
   generalize l[i]=y at *
   have hpl:=Po.psC_len ps
   have hpn:=Po.psC_next ps
   generalize hpc:Po.psC ps=pc at *
   obtain ⟨yk,⟨ypk,ypf,ypv,ypl⟩,yf,yv,yl⟩:=y
   obtain ⟨zk,⟨zpk,zpf,zpv,zpl⟩,zf,zv,zl⟩:=z
   simp only [Po.Lays,Po.cs,Po.T.k,Po.T.p,Po.T.f,Po.T.v,Po.T.l,Pd.T.k,Pd.T.f,Pd.T.v,Pd.T.l] at c c0 c1 c2 c3 c4 c5 c6 c7 hAo hAp
   repeat' first|(intro K hK;(with_reducible refine gC ?_);(refine cN [0] c ?_;rintro _ _ ⟨G',pw',w',hle2,hrow,rfl,rfl⟩;refine cR ?_))|(refine sxO ?_;try clear hK K)|refine sxW ?_ ?_<;>intro _|refine sxV ?_ ?_|(intro K hK _;conv=>whnf)
   all_goals
    rename_i v9
    refine aC (G',v9,ps++[⟨.mk zk (.mk zpk zpf zpv zpl) zf zv zl,pw',w'⟩]) ⟨hle.trans hle2,by rw [List.map_append,hmap,List.length_append,hk];exact hnx.symm,by rw [List.length_append,hk];exact hlt,fun x hx=>?_⟩ (by rw [List.length_append,hk];show l.length - (i+1)<l.length - i;omega) ?_ (Qw.pre 5 ?_)
    ·rcases List.mem_append.1 hx with hx | hx
     ·exact Po.At.mono hle2 (hall x hx)
     ·rw [List.mem_singleton.1 hx];exact hrow
    ·simp only [List.length_append,hk]
     exact aD
    ·simp only [autoM,List.take,List.length_append,hk,hpn]
     rw [show i+[(⟨.mk zk (.mk zpk zpf zpv zpl) zf zv zl,pw',w'⟩:Po.L)].length=i+1 from rfl]
     rfl
  ·have hkl:i=l.length:=by omega
   subst hkl
   rw [List.take_length] at hmap
   clear ih cp
   have hX2:=hX2 (fun h=>absurd h.1 (by decide))
   rw [hX2]
   clear hX1 hX2 h5
   repeat' first|(refine sxZ ?_;try clear hK K)|refine sxW ?_ ?_<;>intro _|(intro K hK _;conv=>whnf)
   all_goals exact .inl ⟨G,pu1,w,ps,hle1.trans hle,hmap,hall,Pd.Row.mono hle hpu1,by simp only [Po.cs,Po.T.k,Po.T.p,Po.T.f,Po.T.v,Po.T.l,Pd.T.k,Pd.T.f,Pd.T.v,Pd.T.l,List.length_map];rfl,by rw [hk];exact Qw.pick [0,4] (by decide) rfl⟩
theorem pX (F:Heap) (k f v:Int) (p:Pd.T) (l:List Po.T) (pu u:Value) (sw:Int) (hkk:k=5) (hs:Pd.size p≤1000000000000) (hl:l.length≤8) (h5:k=5→l.length=2) (hpf:(k=1∨k=5)→Pd.fits p=true) (hu:Po.Row F u l) (hpu:Pd.Row F pu p.l)
  (ih:∀ G,∀ y∈l,∀ pw w,Po.At G y pw w→Qz Tryz.prog 55 [.agg (Po.cs y pw w),.int .i64 sw] [hpB G] fun r m=>Po.Lays G (Po.spec sw y) r m) :
  Qz Tryz.prog 55 [.agg (Po.cs (.mk k p f v l) pu u),.int .i64 sw] [hpB F] fun r m=>Po.Out F 42 (Po.spec sw (.mk k p f v l)) r m:=by
 have hok:=hu.ok
 have hpok:=hpu.ok
 have hk15:k=1∨k=5:=by omega
 have cp:=jD _ F p pu sw (Nat.le_refl _) hs (hpf hk15) hpu
 have hq0:=Pd.fits_k (Pd.cut_fits sw p (hpf hk15))
 have hX1:k=5→(Pd.cut sw p).k≤2→Po.spec sw (.mk k p f v l)=(l.map (Po.spec sw))[((Pd.cut sw p).k - 1).toNat]?.getD Po.zero:=fun h1 h2=>by rw [Po.spec_mk,if_pos ⟨h1,h2⟩]
 have hX2:¬ (k=5∧(Pd.cut sw p).k≤2)→Po.spec sw (.mk k p f v l) = .mk k (Pd.cut sw p) f v (l.map (Po.spec sw)):=fun h=>by rw [Po.spec_mk,if_neg h,if_pos hk15]
 generalize Po.spec sw (.mk k p f v l)=X at *
 generalize Pd.cut sw p=q at *
 rw [aY]
 clear hpf hk15
 obtain ⟨pk,pf,pv,pl⟩:=p
 obtain ⟨qk,qf,qv,ql⟩:=q
 simp only [Pd.Lays,pd_cs,Pd.T.k,Pd.T.f,Pd.T.v,Pd.T.l] at *
 subst hkk
 refine aB Tryz.func55 rfl (by decide) ?_
 repeat' first|(intro K hK;(with_reducible refine gC ?_);(refine cN [0] cp ?_;rintro _ _ ⟨F1,pu1,hle1,hpu1,rfl,rfl⟩;refine cR ?_))|(refine sxZ ?_;try clear hK K)|refine sxW ?_ ?_<;>intro _|(intro K hK _;conv=>whnf)
 all_goals
  have hpok1:=hpu1.ok
  refine aE (α:=Heap × Value × List Po.L) (fun (G,w,ps)=>F1.le G∧ps.map (·.x)=(l.take ps.length).map (Po.spec sw)∧ps.length≤l.length∧∀ p∈ps,Po.At G p.x p.pu p.u) (fun (G,w,ps)=>[.k,.k,.k,.k,.k,.k,.k,.d,.k,.k,.k,.k,.k,.k,.k,.k,.k,.k,.k,.k,.k,.k,.k,.k,.k,.k,.k,.k,.k,.k,.k,.set (.int .i64 ps.length),.d,.d,.d,.d,.d,.d,.d,.d,.d,.d,.d,.d,.k,.k,.k,.k,.k,.k,.k,.k,.k,.k,.k,.k,.k,.k,.k,.k,.k,.k])
   (fun (G,w,ps)=>[.set (hpB G),.k,.k,.cells [.int .i64 5,.int .i64 qk,.int .i64 qf,.int .i64 qv,.hs pu1 ql.length,.int .i64 f,.int .i64 v,.sl 4 w ps.length],.set ⟨addrOf w,Po.psC ps,.row w 42 8 ps.length⟩]) (fun (G,w,ps)=>l.length - ps.length) (F1,.slice .none 0 0,[]) ⟨F1.le_refl,rfl,Nat.zero_le _,fun p hp=>by simp at hp⟩ ?_ ((Qw.nilRow _ 42 8).trans (Qw.congr rfl)) ?_
  ·exact aD
  (intro ⟨G,w,ps⟩ ⟨hle,hmap,hlen,hall⟩;intro K hK;(conv=>whnf);refine hK _ _ ?_;clear hK K)
  dsimp only
  generalize hk:ps.length=i at *
  by_cases hlt:i<l.length
  ·have hx:l[i]?=some l[i]:=List.getElem?_eq_getElem hlt
   obtain ⟨pA,pcap,A,cap,hA,c0,c1,c2,c3,c4,c5,c6,c7⟩:=(Po.Row.mono (hle1.trans hle) hu).get hx
   have hAo:=hA.l.ok
   have hAp:=hA.p.ok
   have hmem:=List.mem_of_getElem? hx
   have c:=ih G _ hmem _ _ hA
   have hnx:(l.take (i+1)).map (Po.spec sw)=(l.take i).map (Po.spec sw)++[Po.spec sw l[i]]:=by rw [List.take_add_one,hx,List.map_append];rfl
   clear ih
   generalize Po.spec sw l[i]=z at *
   generalize l[i]=y at *
   have hpl:=Po.psC_len ps
   have hpn:=Po.psC_next ps
   generalize hpc:Po.psC ps=pc at *
   obtain ⟨yk,⟨ypk,ypf,ypv,ypl⟩,yf,yv,yl⟩:=y
   obtain ⟨zk,⟨zpk,zpf,zpv,zpl⟩,zf,zv,zl⟩:=z
   simp only [Po.Lays,Po.cs,Po.T.k,Po.T.p,Po.T.f,Po.T.v,Po.T.l,Pd.T.k,Pd.T.f,Pd.T.v,Pd.T.l] at c c0 c1 c2 c3 c4 c5 c6 c7 hAo hAp
   repeat' first|(intro K hK;(with_reducible refine gC ?_);(refine cN [0] c ?_;rintro _ _ ⟨G',pw',w',hle2,hrow,rfl,rfl⟩;refine cR ?_))|(refine sxO ?_;try clear hK K)|refine sxW ?_ ?_<;>intro _|refine sxV ?_ ?_|(intro K hK _;conv=>whnf)
   all_goals
    rename_i v9
    refine aC (G',v9,ps++[⟨.mk zk (.mk zpk zpf zpv zpl) zf zv zl,pw',w'⟩]) ⟨hle.trans hle2,by rw [List.map_append,hmap,List.length_append,hk];exact hnx.symm,by rw [List.length_append,hk];exact hlt,fun x hx=>?_⟩ (by rw [List.length_append,hk];show l.length - (i+1)<l.length - i;omega) ?_ (Qw.pre 5 ?_)
    ·rcases List.mem_append.1 hx with hx | hx
     ·exact Po.At.mono hle2 (hall x hx)
     ·rw [List.mem_singleton.1 hx];exact hrow
    ·simp only [List.length_append,hk]
     exact aD
    ·simp only [autoM,List.take,List.length_append,hk,hpn]
     rw [show i+[(⟨.mk zk (.mk zpk zpf zpv zpl) zf zv zl,pw',w'⟩:Po.L)].length=i+1 from rfl]
     rfl
  ·have hkl:i=l.length:=by omega
   subst hkl
   rw [List.take_length] at hmap
   clear ih cp
   by_cases hq2:qk≤2
   ·have hX1:=hX1 rfl hq2
    rw [hX1]
    clear hX1 hX2
    have hl2:=h5 rfl
    match l,hl2,ps,hk,hmap with
    | [a,b],_,[x,y],_,hmap =>
     have hax:x.x=Po.spec sw a∧y.x=Po.spec sw b:=by simpa using hmap
     by_cases hq1:qk=1
     ·subst hq1
      have hq:[x,y][0]?=some x:=rfl
      repeat' first|((try intro K hK);(refine Po.cellsK_ps hq ?_;conv=>whnf))|(refine sxZ ?_;try clear hK K)|refine sxW ?_ ?_<;>intro _|(intro K hK _;conv=>whnf)|(intro _;conv=>whnf)
      all_goals exact .inr ⟨G,x.pu,x.u,hle1.trans hle,by show Po.At G (Po.spec sw a) x.pu x.u;rw [← hax.1];exact hall x (by simp),by show _=(AV.agg (Po.cs (Po.spec sw a) x.pu x.u)).den;rw [← hax.1];rfl,Qw.pre 1 rfl⟩
     ·obtain rfl:qk=2:=by omega
      have hq:[x,y][1]?=some y:=rfl
      repeat' first|((try intro K hK);(refine Po.cellsK_ps hq ?_;conv=>whnf))|(refine sxZ ?_;try clear hK K)|refine sxW ?_ ?_<;>intro _|(intro K hK _;conv=>whnf)|(intro _;conv=>whnf)
      all_goals exact .inr ⟨G,y.pu,y.u,hle1.trans hle,by show Po.At G (Po.spec sw b) y.pu y.u;rw [← hax.2];exact hall y (by simp),by show _=(AV.agg (Po.cs (Po.spec sw b) y.pu y.u)).den;rw [← hax.2];rfl,Qw.pre 1 rfl⟩
   ·have hX2:=hX2 (fun h=>hq2 h.2)
    rw [hX2]
    clear hX1 hX2
    repeat' first|(refine sxZ ?_;try clear hK K)|refine sxW ?_ ?_<;>intro _|(intro K hK _;conv=>whnf)
    all_goals exact .inl ⟨G,pu1,w,ps,hle1.trans hle,hmap,hall,Pd.Row.mono hle hpu1,by simp only [Po.cs,Po.T.k,Po.T.p,Po.T.f,Po.T.v,Po.T.l,Pd.T.k,Pd.T.f,Pd.T.v,Pd.T.l,List.length_map];rfl,by rw [hk];exact Qw.pick [0,4] (by decide) rfl⟩
theorem pZ:∀ (n:Nat) (F:Heap) (x:Po.T) (pu u:Value) (sw:Int),Po.tot x≤n→Po.tot x≤1000000000000→Po.fits x=true→Po.At F x pu u →
  Qz Tryz.prog 55 [.agg (Po.cs x pu u),.int .i64 sw] [hpB F] fun r m=>Po.Lays F (Po.spec sw x) r m
 | 0,F,x,pu,u,sw,hn,_,_,_=>absurd (Po.tot_pos x) (by omega)
 | n+1,F,⟨k,p,f,v,l⟩,pu,u,sw,hn,hs,hf,hx=>by
  refine Po.out_know (t:=42) ?_
  have hu:Po.Row F u l:=hx.l
  have hpu:Pd.Row F pu p.l:=hx.p
  have e2:=Po.tot_mk k p f v l
  obtain ⟨hsh,hfl⟩:=Po.fits_iff.1 hf
  have ih:∀ G,∀ y∈l,∀ pw w,Po.At G y pw w→Qz Tryz.prog 55 [.agg (Po.cs y pw w),.int .i64 sw] [hpB G] fun r m=>Po.Lays G (Po.spec sw y) r m:=fun G y hy pw w hw=>pZ n G y pw w sw (by have:=Po.tot_lt (k:=k) (q:=p) (f:=f) (v:=v) hy;omega) (by have:=Po.tot_lt (k:=k) (q:=p) (f:=f) (v:=v) hy;omega) (hfl y hy) hw
  have hl:l.length≤8:=by omega
  have h5:k=5→l.length=2:=fun h=>by omega
  have hpf:(k=1∨k=5)→Pd.fits p=true:=fun h=>by
   have:Pd.right p=true:=by
    rcases hsh with h1 | h1 | h1 | h1
    ·exact h1.2.1
    ·omega
    ·omega
    ·exact h1.2.1
   exact Po.right_fits this
  by_cases hk1:k=1
  ·exact pY F k f v p l pu u sw hk1 (by omega) hl h5 hpf hu hpu ih
  by_cases hk5:k=5
  ·exact pX F k f v p l pu u sw hk5 (by omega) hl h5 hpf hu hpu ih
  ·exact pW F k f v p l pu u sw (by omega) (by omega) hl h5 hpf hu hpu ih
end Go.Proofs.YtmehinfgdcmmjaaGreatDoor
