/- A part of the proof. -/
import Derived.Test.YtmehinfgdcmmjaaGreatDoorTJ10
import Derived.Test.YtmehinfgdcmmjaaGreatDoorTJ20
import Derived.Test.YtmehinfgdcmmjaaGreatDoorTCk5
import Derived.Test.YtmehinfgdcmmjaaGreatDoorTJ13
namespace Go.Proofs.YtmehinfgdcmmjaaGreatDoor
open Go.Sx
set_option maxRecDepth 20000
set_option linter.unusedSimpArgs false
set_option linter.unusedVariables false
set_option maxHeartbeats 4000000
namespace Pd
theorem cnt_le (x:At) (l:List T):cnt x l≤l.length:=by unfold cnt;exact List.length_filter_le _ _
theorem cnt_append (x:At) (a b:List T):cnt x (a++b)=cnt x a+cnt x b:=by unfold cnt;rw [List.filter_append,List.length_append]
theorem cnt_take (x:At) {l:List T} {k:Nat} (h:k<l.length):cnt x (l.take (k+1))=cnt x (l.take k)+(if hits x l[k]=true then 1 else 0):=by
 rw [List.take_add_one,List.getElem?_eq_getElem h,cnt_append]
 congr 1
 unfold cnt
 cases hh:hits x l[k]<;>simp [hh]
theorem cnt_all (x:At) (l:List T):hitsAll x l=decide (cnt x l=l.length):=by
 induction l with
 | nil=>simp [hitsAll,cnt]
 | cons p l ih =>
  have h1:=cnt_le x l
  have e:cnt x (p::l)=(if hits x p=true then 1 else 0)+cnt x l:=by
   unfold cnt
   cases hh:hits x p<;>simp [hh]
   omega
  rw [hitsAll,ih,e,List.length_cons]
  cases hits x p
  ·simp;omega
  ·simp;omega
theorem cnt_none (x:At) (l:List T):(!hitsNone x l)=decide (0<cnt x l):=by
 induction l with
 | nil=>simp [hitsNone,cnt]
 | cons p l ih =>
  have e:cnt x (p::l)=(if hits x p=true then 1 else 0)+cnt x l:=by
   unfold cnt
   cases hh:hits x p<;>simp [hh]
   omega
  rw [hitsNone,e]
  cases hits x p
  ·simp only [Bool.not_false,Bool.true_and,ih];simp
  ·simp;omega
end Pd
theorem bp (F:Heap) (x:Pd.At):∀ (n:Nat) (p:Pd.T) (u:Value),Pd.size p≤n→Pd.size p≤4611686018427387904→Pd.Row F u p.l →
  Qz Tryz.prog 205 [.agg (Pd.cs p u),.int .i64 x.sw,.int .i64 x.port,.agg x.pk] [hpB F] fun r m=>r = .bool (Pd.hits x p)∧m=[hpB F]
 | 0,p,u,hn,_,_=>absurd (Pd.size_pos p) (by omega)
 | n+1,⟨k,f,v,l⟩,u,hn,hs,hu=>by
  refine Qz.fits (K:=fun r m=>r = .bool (Pd.hits x (.mk k f v l))∧Qw m [hpB F]) ?_ fun r m' h=>⟨r,_,rfl,h.2,h.1,rfl⟩
  have hu:Pd.Row F u l:=hu
  have hok:=hu.ok
  have hll:=Pd.length_le l
  have e2:Pd.size (.mk k f v l)=1+Pd.sizeL l:=by rw [Pd.size]
  have ih:∀ y∈l,∀ A,Pd.Row F A y.l→Qz Tryz.prog 205 [.agg (Pd.cs y A),.int .i64 x.sw,.int .i64 x.port,.agg x.pk] [hpB F] fun r m=>r = .bool (Pd.hits x y)∧m=[hpB F]:=fun y hy A hA=>bp F x n y A (by have:=Pd.size_lt (k:=k) (f:=f) (v:=v) hy;omega) (by have:=Pd.size_lt (k:=k) (f:=f) (v:=v) hy;omega) hA
  have hget:=refget26_c f x
  refine aB Tryz.func205 rfl (by decide) ?_
  rw [pd_cs]
  by_cases h1:k=1
  ·subst h1
   rw [Pd.hits_1]
   obtain ⟨sw,port,p0,p1,p2,p3⟩:=x
   simp only [Pd.At.pk] at *
   repeat' first|(refine sxZ ?_;try clear hK K)|refine sxW ?_ ?_<;>intro _|(intro K hK _;conv=>whnf)
   all_goals exact ⟨rfl,Qw.pre 1 rfl⟩
  by_cases h3:k=3
  ·subst h3
   rw [Pd.hits_3]
   clear ih
   generalize hgv:Pd.get f x=gv at *
   obtain ⟨sw,port,p0,p1,p2,p3⟩:=x
   simp only [Pd.At.pk] at *
   by_cases hr:0≤f∧f≤5
   ·by_cases hv:gv=v
    ·rw [decide_eq_true ⟨hr,hv⟩]
     subst hv
     repeat' first|((try intro K hK);(with_reducible refine gC ?_);refine cP hget ?_)|((first|intro A B hA hB|intro K hK|skip);first|((with_reducible refine NIf.yes ?s ?_);(case s=>simp ;done);conv=>whnf)|((with_reducible refine NIf.no ?s ?_);(case s=>simp ;done);conv=>whnf))|(refine aJ [] ?_;(try clear hK K);try clear hA hB A B)|refine sxW ?_ ?_<;>intro _|refine aK ?_ ?_|(intro K hK _;conv=>whnf)
     all_goals exact ⟨by simp,Qw.pre 1 rfl⟩
    ·rw [decide_eq_false (fun h=>hv h.2)]
     repeat' first|((try intro K hK);(with_reducible refine gC ?_);refine cP hget ?_)|((first|intro A B hA hB|intro K hK|skip);first|((with_reducible refine NIf.yes ?s ?_);(case s=>simp [hv];done);conv=>whnf)|((with_reducible refine NIf.no ?s ?_);(case s=>simp [hv];done);conv=>whnf))|(refine aJ [] ?_;(try clear hK K);try clear hA hB A B)|refine sxW ?_ ?_<;>intro _|refine aK ?_ ?_|(intro K hK _;conv=>whnf)
     all_goals exact ⟨by simp [hv],Qw.pre 1 rfl⟩
   ·rw [decide_eq_false (fun h=>hr h.1)]
    repeat' first|(intro K hK;(with_reducible refine gC ?_);refine cP hget ?_)|(refine aJ [] ?_;try clear hK K)|refine sxW ?_ ?_<;>intro _|refine aK ?_ ?_|(intro K hK _;conv=>whnf)
    all_goals exact ⟨by simp,Qw.pre 1 rfl⟩
  by_cases h4:k=4
  ·subst h4
   cases l with
   | nil =>
    rw [Pd.hits_4n]
    obtain ⟨sw,port,p0,p1,p2,p3⟩:=x
    simp only [Pd.At.pk,List.length_nil] at *
    repeat' first|(refine aJ [] ?_;try clear hK K)|refine sxW ?_ ?_<;>intro _|refine aK ?_ ?_|(intro K hK _;conv=>whnf)
    all_goals first
     | exact ⟨rfl,Qw.pre 1 rfl⟩
     | (exfalso;omega)
   | cons q l =>
    rw [Pd.hits_4]
    obtain ⟨A,cap,hA,c0,c1,c2,c3⟩:=hu.get (i:=0) (x:=q) rfl
    have c:=ih q (by simp) _ hA
    clear ih
    generalize Pd.hits x q=hb at *
    simp only [Pd.cs] at c
    generalize hln:(q::l).length=ln at *
    have hpos:0<ln:=by rw [← hln];simp
    obtain ⟨sw,port,p0,p1,p2,p3⟩:=x
    simp only [Pd.At.pk] at *
    repeat' first|(intro K hK;(with_reducible refine gC ?_);refine cS [0] c ?_)|(refine aJ [] ?_;try clear hK K)|refine sxW ?_ ?_<;>intro _|refine aK ?_ ?_|(intro K hK _;conv=>whnf)
    all_goals first
     | exact ⟨rfl,Qw.pre 1 rfl⟩
     | (exfalso;omega)
  have hans:Pd.hits x (.mk k f v l)=(decide (k=5)&&decide (Pd.cnt x l=l.length)||decide (k=6)&&decide (0<Pd.cnt x l)):=by
   by_cases h5:k=5
   ·subst h5;rw [Pd.hits_5,Pd.cnt_all];simp
   ·by_cases h6:k=6
    ·subst h6;rw [Pd.hits_6,Pd.cnt_none];simp
    ·rw [Pd.hits_no x k f v l (by omega)];simp [h5,h6]
  rw [hans]
  repeat' first|(refine sxZ ?_;try clear hK K)|refine sxW ?_ ?_<;>intro _|(intro K hK _;conv=>whnf)
  refine aE (α:=Nat) (fun i=>i≤l.length) (fun i=>[.k,.k,.k,.k,.k,.k,.k,.k,.k,.set (.int .i64 (Pd.cnt x (l.take i):Nat)),.set (.int .i64 i),.k,.k,.k,.k,.k,.k,.k,.k,.k,.k,.k,.k,.k,.k,.k,.k,.k,.k,.k,.k,.k,.k,.k,.k,.k,.k,.k,.k,.k,.k,.k,.k,.k,.k,.k,.k,.k,.k,.k,.k,.k,.k,.k,.d,.d,.d,.d,.d,.d,.d,.d,.d,.d,.d,.d,.d,.d,.d,.d,.d,.d,.k,.k,.k,.k,.k,.k,.k,.k,.k,.k,.k,.k,.k,.k,.k,.k,.k,.k,.k]) (fun _=>[]) (fun i=>l.length - i) 0 (Nat.zero_le _) ?_ (Qw.eq rfl) ?_
  ·repeat (first | exact Qq.nil | refine Qq.any ?_ | refine Qq.cons (Fit1.int (by  simp [Pd.cnt])) ?_ | refine Qq.cons (Fit1.int (by first | rfl | omega)) ?_ | refine Qq.cons (Fit1.bool rfl) ?_ | refine Qq.cons (Fit1.str rfl) ?_ | refine Qq.cons (Fit1.same (by intro h;cases h) (by with_reducible rfl)) ?_ | refine Qq.cons Fit1.nil_sl ?_ | refine Qq.cons (Fit1.hs rfl) ?_ | refine Qq.cons (Fit1.hp rfl rfl) ?_ | refine Qq.cons (Fit1.sl rfl) ?_ | refine Qq.cons (Fit1.ptr rfl rfl) ?_ | refine Qq.cons Fit1.raw ?_)
  (intro i hi;intro K hK;(conv=>whnf);refine hK _ _ ?_;clear hK K)
  have hcl:=Pd.cnt_le x (l.take i)
  rw [List.length_take] at hcl
  by_cases hlt:i<l.length
  ·have hx:l[i]?=some l[i]:=List.getElem?_eq_getElem hlt
   obtain ⟨A,cap,hA,c0,c1,c2,c3⟩:=hu.get hx
   have hmem:=List.mem_of_getElem? hx
   have c:=ih _ hmem _ hA
   have hnx:=Pd.cnt_take x hlt
   clear ih hans
   generalize l[i]=y at *
   simp only [Pd.cs] at c
   generalize Pd.cnt x (l.take i)=ci at *
   cases hq:Pd.hits x y with
   | true =>
    rw [hq] at c hnx
    simp only [Pd.At.pk] at *
    repeat' first|(intro K hK;(with_reducible refine gC ?_);refine cS [0] c ?_)|(refine aJ [] ?_;try clear hK K)|refine sxW ?_ ?_<;>intro _|refine aK ?_ ?_|(intro K hK _;conv=>whnf)
    all_goals refine aC (i+1) hlt (by omega) ?_ (Qw.eq rfl)
    all_goals repeat (first | exact Qq.nil | refine Qq.any ?_ | refine Qq.cons (Fit1.int (by  (rw [hnx];simp))) ?_ | refine Qq.cons (Fit1.int (by first | rfl | omega)) ?_ | refine Qq.cons (Fit1.bool rfl) ?_ | refine Qq.cons (Fit1.str rfl) ?_ | refine Qq.cons (Fit1.same (by intro h;cases h) (by with_reducible rfl)) ?_ | refine Qq.cons Fit1.nil_sl ?_ | refine Qq.cons (Fit1.hs rfl) ?_ | refine Qq.cons (Fit1.hp rfl rfl) ?_ | refine Qq.cons (Fit1.sl rfl) ?_ | refine Qq.cons (Fit1.ptr rfl rfl) ?_ | refine Qq.cons Fit1.raw ?_)
   | false =>
    rw [hq] at c hnx
    simp only [Pd.At.pk] at *
    repeat' first|(intro K hK;(with_reducible refine gC ?_);refine cS [0] c ?_)|(refine aJ [] ?_;try clear hK K)|refine sxW ?_ ?_<;>intro _|refine aK ?_ ?_|(intro K hK _;conv=>whnf)
    all_goals refine aC (i+1) hlt (by omega) ?_ (Qw.eq rfl)
    all_goals repeat (first | exact Qq.nil | refine Qq.any ?_ | refine Qq.cons (Fit1.int (by  (rw [hnx];simp))) ?_ | refine Qq.cons (Fit1.int (by first | rfl | omega)) ?_ | refine Qq.cons (Fit1.bool rfl) ?_ | refine Qq.cons (Fit1.str rfl) ?_ | refine Qq.cons (Fit1.same (by intro h;cases h) (by with_reducible rfl)) ?_ | refine Qq.cons Fit1.nil_sl ?_ | refine Qq.cons (Fit1.hs rfl) ?_ | refine Qq.cons (Fit1.hp rfl rfl) ?_ | refine Qq.cons (Fit1.sl rfl) ?_ | refine Qq.cons (Fit1.ptr rfl rfl) ?_ | refine Qq.cons Fit1.raw ?_)
  ·have hkl:i=l.length:=by omega
   subst hkl
   rw [List.take_length] at hcl ⊢
   generalize Pd.cnt x l=ci at *
   clear ih hans
   repeat' first|(refine sxZ ?_;try clear hK K)|refine sxW ?_ ?_<;>intro _|(intro K hK _;conv=>whnf)
   all_goals
    refine ⟨?_,Qw.pre 1 rfl⟩
    congr 1
    first
     | (simp;omega)
     | (rw [Bool.eq_iff_iff];simp;omega)
def Po.C8 (G:Heap) (u:Value) (i:Nat) (k pk pf pv f v:Int) (pw w:Value):Prop:=G.c ((addrOf u).add (i*8)) (.int .i64 k)∧G.c ((addrOf u).add (i*8+1)) (.int .i64 pk)∧G.c ((addrOf u).add (i*8+2)) (.int .i64 pf)∧G.c ((addrOf u).add (i*8+3)) (.int .i64 pv)∧G.c ((addrOf u).add (i*8+4)) pw∧G.c ((addrOf u).add (i*8+5)) (.int .i64 f)∧G.c ((addrOf u).add (i*8+6)) (.int .i64 v)∧G.c ((addrOf u).add (i*8+7)) w
theorem jk (F:Heap) (k:Int) (l:List Po.T) (pu u:Value) (sw:Int) (hkk:k=3∨k=4) (hl:l.length≤8) (hu:Po.Row F u l) (hpu:Pd.Row F pu [])
  (ih:∀ G,∀ y∈l,∀ pw w,Po.At G y pw w→Qz Tryz.prog 75 [.agg (Po.cs y pw w),.int .i64 sw] [hpB G] fun r m=>Po.Lays G (Po.spec sw y) r m) :
  Qz Tryz.prog 75 [.agg (Po.cs (.mk k Po.noneP 0 0 l) pu u),.int .i64 sw] [hpB F] fun r m=>Po.Out F 27 (Po.spec sw (.mk k Po.noneP 0 0 l)) r m:=by
 have hok:=hu.ok
 have hpok:=hpu.ok
 rw [Po.spec_mk,if_neg (fun h=>by omega),if_neg (fun h=>by omega)]
 rw [aY]
 unfold Po.noneP
 simp only [pd_cs,Pd.T.k,Pd.T.f,Pd.T.v,Pd.T.l] at *
 refine aB Tryz.func75 rfl (by decide) ?_
 repeat' first|(refine sxZ ?_;try clear hK K)|refine sxW ?_ ?_<;>intro _|(intro K hK _;conv=>whnf)
 all_goals first | (exfalso;omega) | skip
 all_goals
  refine aE (α:=Heap × Value × List Po.L) (fun (G,w,ps)=>F.le G∧ps.map (·.x)=(l.take ps.length).map (Po.spec sw)∧ps.length≤l.length∧∀ p∈ps,Po.At G p.x p.pu p.u) (fun (G,w,ps)=>[.k,.k,.k,.k,.k,.k,.k,.set (.int .i64 ps.length),.k,.k,.k,.k,.k,.k,.k,.k,.k,.k,.k,.k,.k,.k,.k,.k,.k,.k,.k,.k,.k,.k,.k,.k,.k,.k,.k,.k,.k,.k,.k,.k,.k,.k,.k,.k,.k,.k,.k,.k,.k,.k,.k,.k,.k,.k,.k,.k,.k,.k,.k,.k,.k,.k,.k,.d,.d,.d,.d,.d,.d,.d,.d,.d,.d,.d,.d,.d,.d,.d,.d,.d,.d,.d,.k])
   (fun (G,w,ps)=>[.set (hpB G),.k,.k,.cells [.int .i64 k,.int .i64 0,.int .i64 0,.int .i64 0,.raw (.slice .none 0 0),.int .i64 0,.int .i64 0,.sl 4 w ps.length],.set ⟨addrOf w,Po.psC ps,.row w 27 8 ps.length⟩]) (fun (G,w,ps)=>l.length - ps.length) (F,.slice .none 0 0,[]) ⟨F.le_refl,rfl,Nat.zero_le _,fun p hp=>by simp at hp⟩ ?_ ((Qw.nilRow _ 27 8).trans (Qw.congr rfl)) ?_
  ·exact aD
  (intro ⟨G,w,ps⟩ ⟨hle,hmap,hlen,hall⟩;intro K hK;(conv=>whnf);refine hK _ _ ?_;clear hK K)
  dsimp only
  generalize hk:ps.length=i at *
  by_cases hlt:i<l.length
  ·have hx:l[i]?=some l[i]:=List.getElem?_eq_getElem hlt
   obtain ⟨pA,pcap,A,cap,hA,c0,c1,c2,c3,c4,c5,c6,c7⟩:=(Po.Row.mono hle hu).get hx
   have hAo:=hA.l.ok
   have hAp:=hA.p.ok
   have hmem:=List.mem_of_getElem? hx
   have c:=ih G _ hmem _ _ hA
   have hnx:(l.take (i+1)).map (Po.spec sw)=(l.take i).map (Po.spec sw)++[Po.spec sw l[i]]:=by rw [List.take_add_one,hx,List.map_append];rfl
   clear ih
   generalize Po.spec sw l[i]=z at *
   generalize l[i]=y at *
   have hpl:=Po.psC_len ps
   have hpn:=Po.psC_next ps
   generalize hpc:Po.psC ps=pc at *
   obtain ⟨yk,⟨ypk,ypf,ypv,ypl⟩,yf,yv,yl⟩:=y
   obtain ⟨zk,⟨zpk,zpf,zpv,zpl⟩,zf,zv,zl⟩:=z
   simp only [Po.Lays,Po.cs,Po.T.k,Po.T.p,Po.T.f,Po.T.v,Po.T.l,Pd.T.k,Pd.T.f,Pd.T.v,Pd.T.l] at c c0 c1 c2 c3 c4 c5 c6 c7 hAo hAp
   repeat' first|(intro K hK;(with_reducible refine gC ?_);(refine cN [0] c ?_;rintro _ _ ⟨G',pw',w',hle2,hrow,rfl,rfl⟩;refine cR ?_))|(refine sxO ?_;try clear hK K)|refine sxW ?_ ?_<;>intro _|refine sxV ?_ ?_|(intro K hK _;conv=>whnf)
   all_goals
    rename_i v9
    refine aC (G',v9,ps++[⟨.mk zk (.mk zpk zpf zpv zpl) zf zv zl,pw',w'⟩]) ⟨hle.trans hle2,by rw [List.map_append,hmap,List.length_append,hk];exact hnx.symm,by rw [List.length_append,hk];exact hlt,fun x hx=>?_⟩ (by rw [List.length_append,hk];show l.length - (i+1)<l.length - i;omega) ?_ (Qw.pre 5 ?_)
    ·rcases List.mem_append.1 hx with hx | hx
     ·exact Po.At.mono hle2 (hall x hx)
     ·rw [List.mem_singleton.1 hx];exact hrow
    ·simp only [List.length_append,hk]
     exact aD
    ·simp only [autoM,List.take,List.length_append,hk,hpn]
     rw [show i+[(⟨.mk zk (.mk zpk zpf zpv zpl) zf zv zl,pw',w'⟩:Po.L)].length=i+1 from rfl]
     rfl
  ·have hkl:i=l.length:=by omega
   subst hkl
   rw [List.take_length] at hmap
   clear ih
   repeat' first|(refine sxZ ?_;try clear hK K)|refine sxW ?_ ?_<;>intro _|(intro K hK _;conv=>whnf)
   all_goals exact .inl ⟨G,.slice .none 0 0,w,ps,hle,hmap,hall,Pd.nilRow G,by simp only [Po.cs,Po.T.k,Po.T.p,Po.T.f,Po.T.v,Po.T.l,Pd.T.k,Pd.T.f,Pd.T.v,Pd.T.l,List.length_map];rfl,by rw [hk];exact Qw.pick [0,4] (by decide) rfl⟩
theorem refat27_5 (F:Heap) (p:Pd.T) (a b:Po.T) (pu u:Value) (sw:Int) (hs:Pd.size p≤1000000000000) (hpf:Pd.fits p=true) (hu:Po.Row F u [a,b]) (hpu:Pd.Row F pu p.l)
  (ih:∀ G,∀ y∈[a,b],∀ pw w,Po.At G y pw w→Qz Tryz.prog 75 [.agg (Po.cs y pw w),.int .i64 sw] [hpB G] fun r m=>Po.Lays G (Po.spec sw y) r m) :
  Qz Tryz.prog 75 [.agg (Po.cs (.mk 5 p 0 0 [a,b]) pu u),.int .i64 sw] [hpB F] fun r m=>Po.Out F 27 (Po.spec sw (.mk 5 p 0 0 [a,b])) r m:=by
 have hok:=hu.ok
 have hpok:=hpu.ok
 have cp:=eK _ F p pu sw (Nat.le_refl _) hs hpf hpu
 have hq0:=Pd.fits_k (Pd.cut_fits sw p hpf)
 have hX1:(Pd.cut sw p).k≤2→Po.spec sw (.mk 5 p 0 0 [a,b])=([a,b].map (Po.spec sw))[((Pd.cut sw p).k - 1).toNat]?.getD Po.zero:=fun h2=>by rw [Po.spec_mk,if_pos ⟨rfl,h2⟩]
 have hX2:¬ ((Pd.cut sw p).k≤2)→Po.spec sw (.mk 5 p 0 0 [a,b]) = .mk 5 (Pd.cut sw p) 0 0 ([a,b].map (Po.spec sw)):=fun h=>by rw [Po.spec_mk,if_neg (fun h'=>h h'.2),if_pos (.inr rfl)]
 generalize Po.spec sw (.mk 5 p 0 0 [a,b])=X at *
 generalize Pd.cut sw p=q at *
 rw [aY]
 obtain ⟨apA,apc,aA,acap,hA,c0,c1,c2,c3,c4,c5,c6,c7⟩:=hu.get (i:=0) (x:=a) rfl
 obtain ⟨bpA,bpc,bA,bcap,hB,d0,d1,d2,d3,d4,d5,d6,d7⟩:=hu.get (i:=1) (x:=b) rfl
 have ca:=fun G (h:F.le G)=>ih G a (by simp) _ _ (Po.At.mono h hA)
 have cb:=fun G (h:F.le G)=>ih G b (by simp) _ _ (Po.At.mono h hB)
 have hAo:=hA.l.ok
 have hAp:=hA.p.ok
 have hBo:=hB.l.ok
 have hBp:=hB.p.ok
 clear ih hu
 have hmap:[a,b].map (Po.spec sw)=[Po.spec sw a,Po.spec sw b]:=rfl
 rw [hmap] at hX1 hX2
 clear hmap
 generalize Po.spec sw a=za at *
 generalize Po.spec sw b=zb at *
 obtain ⟨pk,pf,pv,pl⟩:=p
 obtain ⟨qk,qf,qv,ql⟩:=q
 obtain ⟨ak,⟨apk,apf,apv,apl⟩,af,av,al⟩:=a
 obtain ⟨bk,⟨bpk,bpf,bpv,bpl⟩,bf,bv,bl⟩:=b
 simp only [Pd.Lays,pd_cs,Po.cs,Po.T.k,Po.T.p,Po.T.f,Po.T.v,Po.T.l,Pd.T.k,Pd.T.f,Pd.T.v,Pd.T.l] at *
 have hA8:∀ G,F.le G→Po.C8 G u 0 ak apk apf apv af av (.slice apA apl.length apc) (.slice aA al.length acap):=fun G h=>⟨h.c _ _ c0,h.c _ _ c1,h.c _ _ c2,h.c _ _ c3,h.c _ _ c4,h.c _ _ c5,h.c _ _ c6,h.c _ _ c7⟩
 have hB8:∀ G,F.le G→Po.C8 G u 1 bk bpk bpf bpv bf bv (.slice bpA bpl.length bpc) (.slice bA bl.length bcap):=fun G h=>⟨h.c _ _ d0,h.c _ _ d1,h.c _ _ d2,h.c _ _ d3,h.c _ _ d4,h.c _ _ d5,h.c _ _ d6,h.c _ _ d7⟩
 have cp:=cp.mono (K':=fun r m=>∃ F' w,F.le F'∧Po.C8 F' u 0 ak apk apf apv af av (.slice apA apl.length apc) (.slice aA al.length acap)∧Po.C8 F' u 1 bk bpk bpf bpv bf bv (.slice bpA bpl.length bpc) (.slice bA bl.length bcap)∧Pd.Row F' w ql∧SlOk w ql.length∧r = .agg [.int .i64 qk,.int .i64 qf,.int .i64 qv,.hs w ql.length]∧m=[hpB F']) fun r m ⟨F',w,h1,h2,h3,h4⟩=>⟨F',w,h1,hA8 F' h1,hB8 F' h1,h2,h2.ok,h3,h4⟩
 have ca:=fun G h=>(ca G h).mono (K':=fun r m=>∃ F' pw w,G.le F'∧Po.C8 F' u 1 bk bpk bpf bpv bf bv (.slice bpA bpl.length bpc) (.slice bA bl.length bcap)∧Po.At F' za pw w∧SlOk pw za.p.l.length∧SlOk w za.l.length∧r = .agg (Po.cs za pw w)∧m=[hpB F']) fun r m ⟨F',pw,w,h1,h2,h3,h4⟩=>⟨F',pw,w,h1,hB8 F' (h.trans h1),h2,h2.p.ok,h2.l.ok,h3,h4⟩
 have cb:=fun G h=>(cb G h).mono (K':=fun r m=>∃ F' pw w,G.le F'∧Po.C8 F' u 0 ak apk apf apv af av (.slice apA apl.length apc) (.slice aA al.length acap)∧Po.At F' zb pw w∧SlOk pw zb.p.l.length∧SlOk w zb.l.length∧r = .agg (Po.cs zb pw w)∧m=[hpB F']) fun r m ⟨F',pw,w,h1,h2,h3,h4⟩=>⟨F',pw,w,h1,hA8 F' (h.trans h1),h2,h2.p.ok,h2.l.ok,h3,h4⟩
 clear c0 c1 c2 c3 c4 c5 c6 c7 d0 d1 d2 d3 d4 d5 d6 d7 hA8 hB8 hs hpf hA hB
 obtain ⟨ak',⟨apk',apf',apv',apl'⟩,af',av',al'⟩:=za
 obtain ⟨bk',⟨bpk',bpf',bpv',bpl'⟩,bf',bv',bl'⟩:=zb
 simp only [Po.cs,Po.T.k,Po.T.p,Po.T.f,Po.T.v,Po.T.l,Pd.T.k,Pd.T.f,Pd.T.v,Pd.T.l] at ca cb
 by_cases hq1:qk=1
 ·subst hq1
  have hX1:X=_:=hX1 (by decide)
  subst hX1
  refine aB Tryz.func75 rfl (by decide) ?_
  repeat' first|(intro K hK;(with_reducible refine gC ?_);first|(refine cN [0] cp ?_;rintro _ _ ⟨F1,pu1,hle1,⟨c0,c1,c2,c3,c4,c5,c6,c7⟩,hb8,hpu1,hpok1,rfl,rfl⟩;refine cR ?_)|(refine cN [0] (ca F1 hle1) ?_;rintro _ _ ⟨F2,pw2,w2,hle2,hb82,hat,hok2,hok3,rfl,rfl⟩;refine cR ?_))|(refine sxO ?_;try clear hK K)|refine sxW ?_ ?_<;>intro _|refine sxV ?_ ?_|(intro K hK _;conv=>whnf)
  all_goals exact .inr ⟨F2,pw2,w2,hle1.trans hle2,hat,rfl,Qw.pre 1 rfl⟩
 by_cases hq2:qk=2
 ·subst hq2
  have hX1:X=_:=hX1 (by decide)
  subst hX1
  refine aB Tryz.func75 rfl (by decide) ?_
  repeat' first|(intro K hK;(with_reducible refine gC ?_);first|(refine cN [0] cp ?_;rintro _ _ ⟨F1,pu1,hle1,ha8,⟨c0,c1,c2,c3,c4,c5,c6,c7⟩,hpu1,hpok1,rfl,rfl⟩;refine cR ?_)|(refine cN [0] (cb F1 hle1) ?_;rintro _ _ ⟨F2,pw2,w2,hle2,hb82,hat,hok2,hok3,rfl,rfl⟩;refine cR ?_))|(refine sxO ?_;try clear hK K)|refine sxW ?_ ?_<;>intro _|refine sxV ?_ ?_|(intro K hK _;conv=>whnf)
  all_goals exact .inr ⟨F2,pw2,w2,hle1.trans hle2,hat,rfl,Qw.pre 1 rfl⟩
 have hX2:=hX2 (by omega)
 subst hX2
 have ca:=fun G h=>Qz.fits (ca G h) (K':=fun r m=>∃ F' pw w,G.le F'∧Po.At F' (.mk ak' (.mk apk' apf' apv' apl') af' av' al') pw w∧SlOk pw apl'.length∧SlOk w al'.length∧r = .agg [.int .i64 ak',.int .i64 apk',.int .i64 apf',.int .i64 apv',.hs pw apl'.length,.int .i64 af',.int .i64 av',.hs w al'.length]∧m=[hpB G,hpB F']) fun r m ⟨F',pw,w,h1,h2,h3,h4,h5,h6,h7⟩=>⟨r,[hpB G,hpB F'],rfl,by rw [h7];exact Qw.dup h1 [],F',pw,w,h1,h3,h4,h5,h6,rfl⟩
 have cb:=fun G h=>Qz.fits (cb G h) (K':=fun r m=>∃ F' pw w,G.le F'∧Po.At F' (.mk bk' (.mk bpk' bpf' bpv' bpl') bf' bv' bl') pw w∧SlOk pw bpl'.length∧SlOk w bl'.length∧r = .agg [.int .i64 bk',.int .i64 bpk',.int .i64 bpf',.int .i64 bpv',.hs pw bpl'.length,.int .i64 bf',.int .i64 bv',.hs w bl'.length]∧m=[hpB G,hpB F']) fun r m ⟨F',pw,w,h1,h2,h3,h4,h5,h6,h7⟩=>⟨r,[hpB G,hpB F'],rfl,by rw [h7];exact Qw.dup h1 [],F',pw,w,h1,h3,h4,h5,h6,rfl⟩
 refine aB Tryz.func75 rfl (by decide) ?_
 repeat' first|(intro K hK;(with_reducible refine gC ?_);first|(refine cN [0] cp ?_;rintro _ _ ⟨F1,pu1,hle1,⟨c0,c1,c2,c3,c4,c5,c6,c7⟩,⟨d0,d1,d2,d3,d4,d5,d6,d7⟩,hpu1,hpok1,rfl,rfl⟩;refine cR ?_)|(refine cN [0] (ca F1 hle1) ?_;rintro _ _ ⟨F2,pw2,w2,hle2,hat,hok2,hok3,rfl,rfl⟩;refine cR ?_)|(refine cN [0] (cb F1 hle1) ?_;rintro _ _ ⟨F3,pw3,w3,hle3,hbt,hok4,hok5,rfl,rfl⟩;refine cR ?_))|(refine aJ [2] ?_;try clear hK K)|refine sxW ?_ ?_<;>intro _|refine aK ?_ ?_|(intro K hK _;conv=>whnf)
 all_goals
  have hall:∀ p∈[(⟨.mk ak' (.mk apk' apf' apv' apl') af' av' al',pw2,w2⟩:Po.L),⟨.mk bk' (.mk bpk' bpf' bpv' bpl') bf' bv' bl',pw3,w3⟩],Po.At (cU F2 F3) p.x p.pu p.u:=fun p hp=>by
   simp only [List.mem_cons,List.not_mem_nil,or_false] at hp
   rcases hp with rfl | rfl
   ·exact Po.At.mono cU.l hat
   ·exact Po.At.mono cU.r hbt
 all_goals first
  | exact .inl ⟨cU F2 F3,pu1,_,[⟨.mk ak' (.mk apk' apf' apv' apl') af' av' al',pw2,w2⟩,⟨.mk bk' (.mk bpk' bpf' bpv' bpl') bf' bv' bl',pw3,w3⟩],(hle1.trans hle2).trans cU.l,rfl,hall,Pd.Row.mono (hle2.trans cU.l) hpu1,rfl,(Qw.pick [4,5,6] (by decide) rfl).trans (Qw.joinH F2 F3 _)⟩
  | exact .inl ⟨cU F2 F3,pu1,_,[⟨.mk ak' (.mk apk' apf' apv' apl') af' av' al',pw2,w2⟩,⟨.mk bk' (.mk bpk' bpf' bpv' bpl') bf' bv' bl',pw3,w3⟩],(hle1.trans hle2).trans cU.l,rfl,hall,Pd.Row.mono (hle2.trans cU.l) hpu1,rfl,(Qw.pick [5,4,6] (by decide) rfl).trans (Qw.joinH F2 F3 _)⟩
theorem iB:∀ (n:Nat) (F:Heap) (x:Po.T) (pu u:Value) (sw:Int),Po.tot x≤n→Po.tot x≤1000000000000→Po.fits x=true→Po.At F x pu u →
  Qz Tryz.prog 75 [.agg (Po.cs x pu u),.int .i64 sw] [hpB F] fun r m=>Po.Lays F (Po.spec sw x) r m
 | 0,F,x,pu,u,sw,hn,_,_,_=>absurd (Po.tot_pos x) (by omega)
 | n+1,F,⟨k,p,f,v,l⟩,pu,u,sw,hn,hs,hf,hx=>by
  refine Po.out_know (t:=27) ?_
  have hu:Po.Row F u l:=hx.l
  have hpu:Pd.Row F pu p.l:=hx.p
  have e2:=Po.tot_mk k p f v l
  obtain ⟨hsh,hfl⟩:=Po.fits_iff.1 hf
  have ih:∀ G,∀ y∈l,∀ pw w,Po.At G y pw w→Qz Tryz.prog 75 [.agg (Po.cs y pw w),.int .i64 sw] [hpB G] fun r m=>Po.Lays G (Po.spec sw y) r m:=fun G y hy pw w hw=>iB n G y pw w sw (by have:=Po.tot_lt (k:=k) (q:=p) (f:=f) (v:=v) hy;omega) (by have:=Po.tot_lt (k:=k) (q:=p) (f:=f) (v:=v) hy;omega) (hfl y hy) hw
  rcases hsh with ⟨rfl,hr,⟨rfl,rfl⟩,hl⟩ | ⟨rfl,rfl,hf1,hv1,hl⟩ | ⟨hk,rfl,⟨rfl,rfl⟩,hl1,hl2⟩ | ⟨rfl,hr,⟨rfl,rfl⟩,hl⟩
  ·obtain rfl:=List.eq_nil_of_length_eq_zero hl
   have hpf:=Po.right_fits hr
   have cp:=eK _ F p pu sw (Nat.le_refl _) (by omega) hpf hpu
   rw [Po.spec_mk,if_neg (fun h=>by omega),if_pos (.inl rfl)]
   rw [aY]
   have hok:=hu.ok
   have hpok:=hpu.ok
   clear ih hf hx hu hpu hr hpf
   generalize Pd.cut sw p=q at *
   obtain ⟨pk,pf,pv,pl⟩:=p
   obtain ⟨qk,qf,qv,ql⟩:=q
   simp only [Pd.Lays,pd_cs,Pd.T.k,Pd.T.f,Pd.T.v,Pd.T.l] at *
   have cp:=cp.mono (K':=fun r m=>∃ F' w,F.le F'∧Pd.Row F' w ql∧SlOk w ql.length∧r = .agg [.int .i64 qk,.int .i64 qf,.int .i64 qv,.hs w ql.length]∧m=[hpB F']) fun r m ⟨F',w,h1,h2,h3,h4⟩=>⟨F',w,h1,h2,h2.ok,h3,h4⟩
   refine aB Tryz.func75 rfl (by decide) ?_
   repeat' first|(intro K hK;(with_reducible refine gC ?_);(refine cN [0] cp ?_;rintro _ _ ⟨F1,pu1,hle1,hpu1,hpok1,rfl,rfl⟩;refine cR ?_))|(refine sxO ?_;try clear hK K)|refine sxW ?_ ?_<;>intro _|refine sxV ?_ ?_|(intro K hK _;conv=>whnf)
   all_goals exact .inr ⟨F1,pu1,.slice .none 0 0,hle1,⟨hpu1,Po.nilRow F1⟩,rfl,Qw.pre 1 rfl⟩
  ·obtain rfl:=List.eq_nil_of_length_eq_zero hl
   rw [Po.spec_mk,if_neg (fun h=>by omega),if_neg (fun h=>by omega)]
   rw [aY]
   have hok:=hu.ok
   have hpok:=hpu.ok
   clear ih hf
   unfold Po.noneP at *
   simp only [pd_cs,Pd.T.k,Pd.T.f,Pd.T.v,Pd.T.l] at *
   refine aB Tryz.func75 rfl (by decide) ?_
   repeat' first|(refine sxZ ?_;try clear hK K)|refine sxW ?_ ?_<;>intro _|(intro K hK _;conv=>whnf)
   all_goals exact .inr ⟨F,pu,u,F.le_refl,hx,rfl,Qw.pre 1 rfl⟩
  ·exact jk F k l pu u sw hk hl2 hu hpu ih
  ·match l,hl with
   | [a,b],_=>exact refat27_5 F p a b pu u sw (by omega) (Po.right_fits hr) hu hpu ih
end Go.Proofs.YtmehinfgdcmmjaaGreatDoor
