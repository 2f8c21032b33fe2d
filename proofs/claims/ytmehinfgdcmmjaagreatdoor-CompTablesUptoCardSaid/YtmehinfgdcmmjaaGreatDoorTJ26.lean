/- A part of the proof. -/
import Derived.Test.YtmehinfgdcmmjaaGreatDoorTJ6
import Derived.Test.YtmehinfgdcmmjaaGreatDoorTJ27
import Derived.Test.YtmehinfgdcmmjaaGreatDoorTJ28
import Derived.Test.YtmehinfgdcmmjaaGreatDoorTJ29
import Derived.Test.YtmehinfgdcmmjaaGreatDoorTCk6
import Derived.Test.YtmehinfgdcmmjaaGreatDoorTJ14
import Derived.Test.YtmehinfgdcmmjaaGreatDoorTJ1
import Derived.Test.YtmehinfgdcmmjaaGreatDoorTJ25
import Derived.Test.YtmehinfgdcmmjaaGreatDoorTJ17
import Derived.Test.YtmehinfgdcmmjaaGreatDoorTJ24
import Derived.Test.YtmehinfgdcmmjaaGreatDoorTJ5
import Derived.Test.YtmehinfgdcmmjaaGreatDoorTJ30
import Derived.Test.YtmehinfgdcmmjaaGreatDoorTPo8
namespace Go.Proofs.YtmehinfgdcmmjaaGreatDoor
open Go.Sx
set_option maxRecDepth 20000
set_option maxHeartbeats 4000000
set_option linter.unusedVariables false
namespace Tr
end Tr
set_option linter.unusedSimpArgs false
section
variable (F:Heap)
theorem o7 (k:Int) (hk:¬ (k=1∨k=2∨k=3∨k=4∨k=5)) (pk pf pv:Int) (pl:List Pd.T) (f v:Int) (l:List Po.T) (pu u:Value) (tp:Int) (nb rb:Bool) (htp:Pd.top f=tp) (hnb:Pd.same (.mk pk pf pv pl) Po.noneP=nb) (hrb:Pd.right (.mk pk pf pv pl)=rb) (hu:Po.Row F u l) (hok:SlOk u l.length) (hpok:SlOk pu pl.length) (hln:l.length≤4611686018427387904)
  (ih:∀ x∈l,∀ pA A,Po.At F x pA A→Qz Tryz.prog 18 [.agg (Po.cs x pA A)] [hpB F] fun r m=>r = .bool (Po.fits x)∧m=[hpB F])
  (ct:Qz Tryz.prog 45 [.int .i64 f] [] fun r _=>r = .int .i64 tp)
  (cr:Qz Tryz.prog 43 [.agg [.int .i64 pk,.int .i64 pf,.int .i64 pv,.hs pu pl.length]] [hpB F] fun r m=>r = .bool rb∧m=[hpB F])
  (cn:Qz Tryz.prog 44 [.agg [.int .i64 pk,.int .i64 pf,.int .i64 pv,.hs pu pl.length],.agg [.int .i64 0,.int .i64 0,.int .i64 0,.hs (.slice none 0 0) 0]] [hpB F] fun r m=>r = .bool nb∧m=[hpB F]) :
  Qz Tryz.prog 18 [.agg [.int .i64 k,.int .i64 pk,.int .i64 pf,.int .i64 pv,.hs pu pl.length,.int .i64 f,.int .i64 v,.hs u l.length]] [hpB F] fun r m=>r = .bool (Po.shape k (.mk pk pf pv pl) f v l.length&&Po.fitsL l)∧Qw m [hpB F]:=by
 have hfl:=Po.fitsL_iff l
 have hsh:Po.shape k (.mk pk pf pv pl) f v l.length=decide ((k:Int)=1∧rb=true∧(f=0∧v=0)∧l.length=0∨(k:Int)=2∧nb=true∧(0≤f∧f≤4)∧(0≤v∧v≤tp)∧l.length=0∨((k:Int)=3∨(k:Int)=4)∧nb=true∧(f=0∧v=0)∧2≤l.length∧l.length≤8∨(k:Int)=5∧rb=true∧(f=0∧v=0)∧l.length=2):=by rw [← htp,← hnb,← hrb];rfl
 clear htp hnb hrb
 refine aB Tryz.func18 rfl (by decide) ?_
 rw [show Po.shape k (.mk pk pf pv pl) f v l.length=false by rw [hsh];exact decide_eq_false (by omega)]
 clear hsh hfl ih
 rw [Bool.false_and]
 by_cases hk0:k<1
 iterate 2
  ·repeat' first|(refine aJ [] ?_;try clear hK K)|refine sxW ?_ ?_<;>intro _|refine aK ?_ ?_|(intro K hK _;conv=>whnf)
   all_goals first
    | exact ⟨rfl,Qw.pre 1 rfl⟩
    | (exfalso;omega)
theorem kP:∀ (n:Nat) (x:Po.T) (pu u:Value),Po.tot x≤n→Po.tot x≤4611686018427387904→Po.At F x pu u →
  Qz Tryz.prog 18 [.agg (Po.cs x pu u)] [hpB F] fun r m=>r = .bool (Po.fits x)∧m=[hpB F]
 | 0,x,pu,u,hn,_,_=>absurd (Po.tot_pos x) (by omega)
 | n+1,⟨k,⟨pk,pf,pv,pl⟩,f,v,l⟩,pu,u,hn,hs,hx=>by
  refine Qz.fits (K:=fun r m=>r = .bool (Po.fits (.mk k (.mk pk pf pv pl) f v l))∧Qw m [hpB F]) ?_ fun r m' h=>⟨r,_,rfl,h.2,h.1,rfl⟩
  have hll:=Po.length_le l
  have e2:=Po.tot_mk k (.mk pk pf pv pl) f v l
  have ih:∀ x∈l,∀ pA A,Po.At F x pA A→Qz Tryz.prog 18 [.agg (Po.cs x pA A)] [hpB F] fun r m=>r = .bool (Po.fits x)∧m=[hpB F]:=fun x hx pA A hA=>kP n x pA A (by have:=Po.tot_lt (k:=k) (q:=.mk pk pf pv pl) (f:=f) (v:=v) hx;omega) (by have:=Po.tot_lt (k:=k) (q:=.mk pk pf pv pl) (f:=f) (v:=v) hx;omega) hA
  have ct:=reftop26_c f
  have cr:=ir F (.mk pk pf pv pl) pu (by omega) hx.p
  have cn:=fH F _ (.mk pk pf pv pl) Po.noneP pu (.slice none 0 0) (Nat.le_refl _) (by omega) (by decide +kernel) hx.p aI.nil
  rw [Po.fits,aY]
  by_cases hk:k=1∨k=2∨k=3∨k=4∨k=5
  ·rcases hk with rfl | rfl | rfl | rfl | rfl
   ·exact pE F pk pf pv pl f v l pu u _ _ _ rfl rfl rfl hx.l hx.l.ok hx.p.ok (by omega) ih ct cr cn
   ·exact pD F pk pf pv pl f v l pu u _ _ _ rfl rfl rfl hx.l hx.l.ok hx.p.ok (by omega) ih ct cr cn
   ·exact pC F pk pf pv pl f v l pu u _ _ _ rfl rfl rfl hx.l hx.l.ok hx.p.ok (by omega) ih ct cr cn
   ·exact o9 F pk pf pv pl f v l pu u _ _ _ rfl rfl rfl hx.l hx.l.ok hx.p.ok (by omega) ih ct cr cn
   ·exact o8 F pk pf pv pl f v l pu u _ _ _ rfl rfl rfl hx.l hx.l.ok hx.p.ok (by omega) ih ct cr cn
  ·exact o7 F k hk pk pf pv pl f v l pu u _ _ _ rfl rfl rfl hx.l hx.l.ok hx.p.ok (by omega) ih ct cr cn
theorem iq (x:Po.T) (pu u:Value) (hs:Po.tot x≤4611686018427387904) (hx:Po.At F x pu u):Qz Tryz.prog 5 [.agg (Po.cs x pu u)] [hpB F] fun r m=>r = .bool (Po.right x)∧m=[hpB F]:=by
 refine Qz.fits (K:=fun r m=>r = .bool (Po.right x)∧Qw m [hpB F]) ?_ fun r m' h=>⟨r,_,rfl,h.2,h.1,rfl⟩
 have c1:=dc F _ x pu u (Nat.le_refl _) hs hx
 have c2:=fJ F _ x pu u (Nat.le_refl _) hs hx
 have c3:=fF F _ x pu u (Nat.le_refl _) hs hx
 have c4:=kP F _ x pu u (Nat.le_refl _) hs hx
 have hd:=Po.deep_tot x
 have hz:=Po.size_tot x
 have hwd:=Po.wide_le x
 have hok:=hx.l.ok
 have hpok:=hx.p.ok
 unfold Po.right
 generalize Po.fits x=fb at *
 generalize Po.size x=sz at *
 generalize Po.deep x=dp at *
 generalize Po.wide x=wd at *
 simp only [Po.cs] at *
 clear hx
 refine aB Tryz.func5 rfl (by decide) ?_
 cases fb
 ·repeat' first|(intro K hK;(with_reducible refine gC ?_);refine cS [0] c4 ?_)|(refine sxZ ?_;try clear hK K)|refine sxW ?_ ?_<;>intro _|(intro K hK _;conv=>whnf)
  all_goals first
   | (exfalso;omega)
   | exact ⟨by simp,Qw.pre 1 rfl⟩
 by_cases h1:dp≤8
 ·by_cases h2:sz≤64
  ·by_cases h3:wd≤64
   ·repeat' first|(intro K hK;(with_reducible refine gC ?_);first|refine cS [0] c4 ?_|refine cS [0] c1 ?_|refine cS [0] c2 ?_|refine cS [0] c3 ?_)|(refine sxZ ?_;try clear hK K)|refine sxW ?_ ?_<;>intro _|(intro K hK _;conv=>whnf)
    all_goals first
     | (exfalso;omega)
     | (refine ⟨?_,Qw.pre 1 rfl⟩;congr 1;simp [h1,h2,h3]<;>omega)
   ·repeat' first|(intro K hK;(with_reducible refine gC ?_);first|refine cS [0] c4 ?_|refine cS [0] c1 ?_|refine cS [0] c2 ?_|refine cS [0] c3 ?_)|(refine sxZ ?_;try clear hK K)|refine sxW ?_ ?_<;>intro _|(intro K hK _;conv=>whnf)
    all_goals first
     | (exfalso;omega)
     | (refine ⟨?_,Qw.pre 1 rfl⟩;congr 1;simp [h3]<;>omega)
  ·repeat' first|(intro K hK;(with_reducible refine gC ?_);first|refine cS [0] c4 ?_|refine cS [0] c2 ?_|refine cS [0] c1 ?_)|(refine sxZ ?_;try clear hK K)|refine sxW ?_ ?_<;>intro _|(intro K hK _;conv=>whnf)
   all_goals first
    | (exfalso;omega)
    | (refine ⟨?_,Qw.pre 1 rfl⟩;congr 1;simp [h2]<;>omega)
 ·repeat' first|(intro K hK;(with_reducible refine gC ?_);first|refine cS [0] c4 ?_|refine cS [0] c2 ?_)|(refine sxZ ?_;try clear hK K)|refine sxW ?_ ?_<;>intro _|(intro K hK _;conv=>whnf)
  all_goals first
   | (exfalso;omega)
   | (refine ⟨?_,Qw.pre 1 rfl⟩;congr 1;simp [h1]<;>omega)
end
namespace Po
end Po
theorem oc (F:Heap) (x:Po.T) (pu u:Value) (f:Int) (hf : -9223372036854775808≤f∧f≤9223372036854775807) (hs:Po.tot x≤4611686018427387904) (hx:Po.At F x pu u) :
  Qz Tryz.prog 117 [.agg (Po.cs x pu u),.int .i64 f] [hpB F] fun r m=>r = .int .i64 (Po.asked f x ((Pd.top f).toNat+1)).length∧m=[hpB F]:=by
 refine Qz.fits (K:=fun r m=>r = .int .i64 (Po.asked f x ((Pd.top f).toNat+1)).length∧Qw m [hpB F]) ?_ fun r m' h=>⟨r,_,rfl,h.2,h.1,rfl⟩
 have hok:=hx.l.ok
 have hpok:=hx.p.ok
 have ctop:=reftop26_c f
 have ht0:=Pd.top_nonneg f
 have ht1:Pd.top f≤255:=by unfold Pd.top;split<;>first | omega | (split<;>first | omega | (split<;>omega))
 have ca:∀ i:Nat,Qz Tryz.prog 48 [.agg (Po.cs x pu u),.int .i64 f,.int .i64 i] [hpB F] fun r m=>r = .bool (decide ((i:Int)∈Po.vals f x))∧m=[hpB F]:=fun i=>jA F f i hf _ x pu u (Nat.le_refl _) hs hx
 have hnx:=Po.asked_next f x
 have hln:=Po.asked_len f x
 have h0:Po.asked f x 0=[]:=rfl
 generalize Pd.top f=T at *
 generalize hE:Po.vals f x=E at *
 generalize hW:Po.asked f x=W at *
 clear hs hx hE hW
 obtain ⟨k,⟨pk,pf,pv,pl⟩,f0,v0,l⟩:=x
 simp only [Po.cs,Po.T.k,Po.T.p,Po.T.f,Po.T.v,Po.T.l,Pd.T.k,Pd.T.f,Pd.T.v,Pd.T.l] at *
 refine aB Tryz.func117 rfl (by decide) ?_
 repeat' first|(refine sxZ ?_;try clear hK K)|refine sxW ?_ ?_<;>intro _|(intro K hK _;conv=>whnf)
 refine aE (α:=Nat) (fun i=>i≤T.toNat+1) (fun i=>[.k,.k,.k,.k,.k,.set (.int .i64 (W i).length),.set (.int .i64 i),.d,.d,.d,.d,.d,.d,.d,.d,.d,.d,.d,.d,.k]) (fun _=>[]) (fun i=>T.toNat+1 - i) 0 (Nat.zero_le _) ?_ (Qw.eq rfl) ?_
 ·rw [h0]
  exact aD
 (intro i hi;intro K hK;(conv=>whnf);refine hK _ _ ?_;clear hK K)
 have hl:=hln i
 by_cases hlt:(i:Int)≤T
 ·have c:=ca i
  have hn:=hnx i
  by_cases hE:(i:Int)∈E
  ·rw [decide_eq_true hE] at c
   rw [if_pos hE] at hn
   have hlen:(W (i+1)).length=(W i).length+1:=by rw [hn,List.length_append];rfl
   clear ca hnx hln
   repeat' first|(intro K hK;(with_reducible refine gC ?_);first|refine cP ctop ?_|refine cS [0] c ?_)|(refine sxZ ?_;try clear hK K)|refine sxW ?_ ?_<;>intro _|(intro K hK _;conv=>whnf)
   all_goals first | (exfalso;omega) | skip
   all_goals
    refine aC (i+1) (by show i+1≤T.toNat+1;omega) (by show T.toNat+1 - (i+1)<T.toNat+1 - i;omega) ?_ (Qw.pre 2 rfl)
    rw [hlen]
    exact aD
  ·rw [decide_eq_false hE] at c
   rw [if_neg hE,List.append_nil] at hn
   rw [← hn]
   clear ca hnx hln
   repeat' first|(intro K hK;(with_reducible refine gC ?_);first|refine cP ctop ?_|refine cS [0] c ?_)|(refine sxZ ?_;try clear hK K)|refine sxW ?_ ?_<;>intro _|(intro K hK _;conv=>whnf)
   all_goals first | (exfalso;omega) | skip
   all_goals
    refine aC (i+1) (by show i+1≤T.toNat+1;omega) (by show T.toNat+1 - (i+1)<T.toNat+1 - i;omega) ?_ (Qw.pre 2 rfl)
    exact aD
 ·have hE:i=T.toNat+1:=by omega
  subst hE
  clear ca hnx
  repeat' first|(intro K hK;(with_reducible refine gC ?_);refine cP ctop ?_)|(refine sxZ ?_;try clear hK K)|refine sxW ?_ ?_<;>intro _|(intro K hK _;conv=>whnf)
  all_goals first | (exfalso;omega) | skip
  all_goals exact ⟨rfl,Qw.pre 1 rfl⟩
theorem iu (F:Heap) (x:Po.T) (pu u:Value) (hs:Po.tot x≤2932031007402) (hf:Po.fits x=true) (hx:Po.At F x pu u):Qz Tryz.prog 76 [.agg (Po.cs x pu u)] [hpB F] fun r m=>r = .int .i64 (Po.cells x:Nat)∧m=[hpB F]:=by
 refine Qz.fits (K:=fun r m=>r = .int .i64 (Po.cells x:Nat)∧Qw m [hpB F]) ?_ fun r m' h=>⟨r,_,rfl,h.2,h.1,rfl⟩
 have hok:=hx.l.ok
 have hpok:=hx.p.ok
 have cv:∀ i:Nat,i<5→Qz Tryz.prog 117 [.agg (Po.cs x pu u),.int .i64 i] [hpB F] fun r m=>r = .int .i64 (Po.values i x).length∧m=[hpB F]:=fun i hi=>by
  have c:=oc F x pu u i (by omega) (by omega) hx
  rw [Po.asked_values i x hf] at c
  exact c
 have hcl:=Po.cellsN_le x
 have hlv:∀ f,(Po.values f x).length≤2932031007402:=fun f=>Nat.le_trans (Po.values_len f x) hs
 unfold Po.cells
 have hnx:∀ i,Po.cellsN x (i+1)=min (Po.cellsN x i*((Po.values i x).length+1)) 100000:=fun i=>by rw [Po.cellsN]
 have hbig:∀ i,Po.cellsN x i*((Po.values i x).length+1)≤293203100740300000:=fun i=>by
  have h1:=hcl i
  have h2:=hlv i
  calc _≤100000*(2932031007402+1):=Nat.mul_le_mul h1 (by omega)
   _≤_:=by decide
 have h0:Po.cellsN x 0=1:=rfl
 clear hx hs hf
 generalize hC:Po.cellsN x=C at *
 generalize hL:(fun f:Int=>(Po.values f x).length)=L at *
 have hL':∀ f:Int,(Po.values f x).length=L f:=fun f=>by rw [← hL]
 simp only [hL'] at cv hnx hbig hlv
 clear hL hL' hC
 obtain ⟨k,⟨pk,pf,pv,pl⟩,f0,v0,l⟩:=x
 simp only [Po.cs,Po.T.k,Po.T.p,Po.T.f,Po.T.v,Po.T.l,Pd.T.k,Pd.T.f,Pd.T.v,Pd.T.l] at *
 refine aB Tryz.func76 rfl (by decide) ?_
 repeat' first|(refine sxZ ?_;try clear hK K)|refine sxW ?_ ?_<;>intro _|(intro K hK _;conv=>whnf)
 refine aE (α:=Nat) (fun i=>i≤5) (fun i=>[.k,.k,.k,.set (.int .i64 (C i:Nat)),.set (.int .i64 i),.d,.d,.d,.d,.d,.d,.d,.d,.d,.d,.d,.d,.k]) (fun _=>[]) (fun i=>5 - i) 0 (by decide) ?_ (Qw.eq rfl) ?_
 ·repeat (first | exact Qq.nil | refine Qq.any ?_ | refine Qq.cons (Fit1.int (by  simp [h0])) ?_ | refine Qq.cons (Fit1.int (by first | rfl | omega)) ?_ | refine Qq.cons (Fit1.bool rfl) ?_ | refine Qq.cons (Fit1.str rfl) ?_ | refine Qq.cons (Fit1.same (by intro h;cases h) (by with_reducible rfl)) ?_ | refine Qq.cons Fit1.nil_sl ?_ | refine Qq.cons (Fit1.hs rfl) ?_ | refine Qq.cons (Fit1.hp rfl rfl) ?_ | refine Qq.cons (Fit1.sl rfl) ?_ | refine Qq.cons (Fit1.ptr rfl rfl) ?_ | refine Qq.cons Fit1.raw ?_)
 (intro i hi;intro K hK;(conv=>whnf);refine hK _ _ ?_;clear hK K)
 by_cases hlt:i<5
 ·have c:=cv i hlt
  have hn:=hnx i
  have hb:=hbig i
  have hl:=hlv i
  have hc:=hcl i
  clear cv hnx hbig hlv hcl
  generalize L i=n at *
  generalize C i=c0 at *
  have hprod:((c0:Int)*((n:Int)+1))=((c0*(n+1):Nat):Int):=by push_cast;rfl
  repeat' first|(intro K hK;(with_reducible refine gC ?_);refine cS [0] c ?_)|(refine sxZ ?_;try clear hK K)|refine sxW ?_ ?_<;>intro _|(intro K hK _;conv=>whnf)
  all_goals
   refine aC (i+1) hlt (by omega) ?_ (Qw.pre 2 rfl)
   repeat (first | exact Qq.nil | refine Qq.any ?_ | refine Qq.cons (Fit1.int (by  (simp only [hn];omega))) ?_ | refine Qq.cons (Fit1.int (by first | rfl | omega)) ?_ | refine Qq.cons (Fit1.bool rfl) ?_ | refine Qq.cons (Fit1.str rfl) ?_ | refine Qq.cons (Fit1.same (by intro h;cases h) (by with_reducible rfl)) ?_ | refine Qq.cons Fit1.nil_sl ?_ | refine Qq.cons (Fit1.hs rfl) ?_ | refine Qq.cons (Fit1.hp rfl rfl) ?_ | refine Qq.cons (Fit1.sl rfl) ?_ | refine Qq.cons (Fit1.ptr rfl rfl) ?_ | refine Qq.cons Fit1.raw ?_)
 ·obtain rfl:i=5:=by omega
  repeat' first|(refine sxZ ?_;try clear hK K)|refine sxW ?_ ?_<;>intro _|(intro K hK _;conv=>whnf)
  all_goals exact ⟨rfl,Qw.pre 1 rfl⟩
set_option maxHeartbeats 16000000
theorem jL (F:Heap) (x:Po.T) (pu u:Value) (sw:Int) (hs:Po.tot x≤1000000000) (hx:Po.At F x pu u) (hce:Po.right x=true→Po.cells (Po.spec sw x)≤4096) (hc:Po.right x=true→Tr.cnt (Po.spec sw x) Tr.order≤1000000) :
  Qz Tryz.prog 37 [.agg (Po.cs x pu u),.int .i64 sw] [hpB F] fun r m=>∃ F' v,F.le F'∧Tr.Row F' v (Tr.ans sw x).1∧r = .tup [.hs v (Tr.ans sw x).1.length,.int .i64 (Tr.ans sw x).2]∧m=[hpB F']:=by
 have hok:=hx.l.ok
 have hpok:=hx.p.ok
 have cR:=iq F x pu u (by omega) hx
 refine Qz.fits (K:=fun r m=>∃ F' v,F.le F'∧Tr.Row F' v (Tr.ans sw x).1∧r.den=(AV.tup [.hs v (Tr.ans sw x).1.length,.int .i64 (Tr.ans sw x).2]).den∧Qw m [hpB F']) ?_ fun r m' ⟨F',v,h1,h2,h3,h4⟩=>⟨_,_,h3.symm,h4,F',v,h1,h2,rfl,rfl⟩
 unfold Tr.ans
 by_cases hr:Po.right x=true
 rotate_left
 ·have hr:Po.right x=false:=by simpa using hr
  rw [hr] at cR ⊢
  clear hx hce hc
  obtain ⟨k,⟨pk,pf,pv,pl⟩,a,v,l⟩:=x
  simp only [aY,Po.T.l,Po.T.p,Pd.T.k,Pd.T.f,Pd.T.v,Pd.T.l] at *
  refine aB Tryz.func37 rfl (by decide) ?_
  repeat' first|(intro K hK;(with_reducible refine gC ?_);refine Go.Sx.cS [0] cR ?_)|(refine sxZ ?_;try clear hK K)|refine sxW ?_ ?_<;>intro _|(intro K hK _;conv=>whnf)
  all_goals exact ⟨F,.slice none 0 0,F.le_refl,aI.nil,rfl,Qw.pre 1 rfl⟩
 rw [hr] at cR
 rw [if_pos hr]
 have hf:=Po.right_fits' hr
 have hyf:=Po.spec_fits sw x hf
 have hyt:=Po.spec_tot sw x hf
 have hyr:=Po.spec_right sw x hr
 have hyw:Po.wide (Po.spec sw x)<1000:=by
  have h:=hyr
  unfold Po.right at h
  simp only [Bool.and_eq_true,decide_eq_true_eq] at h
  omega
 have hl:∀ s,(Po.runs sw (Po.spec sw x) s).length≤1000:=fun s=>Nat.le_trans (Po.runs_64 sw _ hyr s) (by decide)
 have cA:=iB _ F x pu u sw (Nat.le_refl _) (by omega) hf hx
 have hce:=hce hr
 have hc:=hc hr
 unfold Tr.all
 clear hx hf hr hyr
 generalize Po.spec sw x=y at *
 have cC:=fun G pu u (h:Po.At G y pu u)=>iu G y pu u (by omega) hyf h
 have kC:=fun G pu u (h:Po.At G y pu u)=>kN y sw pu u (by omega) hyf hyw hl Tr.order 0 (by decide) rfl G Tr.start hc h
 generalize Tr.cases sw y Tr.order Tr.start=C at *
 clear hl hc hyf hyw
 generalize Po.cells y=nc at *
 have hAo:=fun G pu u (h:Po.At G y pu u)=>h.l.ok
 have hAp:=fun G pu u (h:Po.At G y pu u)=>h.p.ok
 obtain ⟨k,⟨pk,pf,pv,pl⟩,a,v,l⟩:=x
 obtain ⟨yk,⟨ypk,ypf,ypv,ypl⟩,yf,yv,yl⟩:=y
 simp only [Po.cs,Po.Lays,Tr.Lays,Tr.start,Po.T.k,Po.T.l,Po.T.p,Po.T.f,Po.T.v,Pd.T.k,Pd.T.f,Pd.T.v,Pd.T.l] at *
 refine aB Tryz.func37 rfl (by decide) ?_
 repeat' first|(intro K hK;(with_reducible refine gC ?_);first|refine Go.Sx.cS [0] cR ?_|(refine Go.Sx.cN [0] cA ?_;rintro _ _ ⟨F1,pu1,u1,hle1,hA1,rfl,rfl⟩;refine Go.Sx.cR ?_)|refine Go.Sx.cS [0] (cC F1 pu1 u1 hA1) ?_|(refine Go.Sx.cN [0] (kC F1 pu1 u1 hA1) ?_;rintro _ _ ⟨G5,v5,hl5,hw5,rfl,rfl⟩;refine Go.Sx.cR ?_))|(refine sxZ ?_;try clear hK K)|refine sxW ?_ ?_<;>intro _|(intro K hK _;conv=>whnf)
 all_goals first | (exfalso;omega) | skip
 all_goals exact ⟨G5,v5,hle1.trans hl5,hw5,rfl,Qw.pre 1 rfl⟩
namespace Ps
open Lx (B)
theorem toks_of {t:List UInt8} {ls:List B} (h:bs t=some ls):∃ L,Lx.toks t=some L∧L.map (·.1)=ls:=by
 unfold bs at h
 cases ht:Lx.toks t with
 | none=>rw [ht] at h;cases h
 | some L =>
  rw [ht] at h
  injection h with h
  exact ⟨L,rfl,h⟩
end Ps
set_option maxHeartbeats 4000000
theorem lO (v:Value) (l:List Lx.T) (hl:Ps.Good l) (h0:0<l.length):Ps.P27 v l 89 (Ps.rows (l.map Lx.b) (Ps.step (l.map Lx.b) (l.map Lx.b).length) 0) 0:=by
 have hlen:(l.map Lx.b).length=l.length:=List.length_map ..
 exact fy v l hl (Ps.step (l.map Lx.b) (l.map Lx.b).length) 0 h0 fun i' h1 h2=>l9 v l hl (Ps.step (l.map Lx.b) (l.map Lx.b).length) i' h2 fun i'' h3 h4=>jV v l hl (l.map Lx.b).length i'' (by rw [hlen];omega) h4
theorem qD (v:Value) (l:List Lx.T) (q:Ps.R Po.T) (hq:Ps.P27 v l 89 q 0):Ps.P27 v l 88 q 0:=by
 intro F b hv
 have cp:=hq F b hv
 refine aH.fits (K:=fun r m=>∃ p j G pu u,q = .ok p j∧0≤j∧j<l.length∧F.le G∧Po.At G p pu u∧r.den=(AV.agg (Po.cs p pu u)).den∧Qw m [hpB G,Ps.pB b v l.length j]) (Kp:=fun ch m=>∃ j x G k,q = .bad j∧l[j]?=some x∧ch=Ps.wrong x.at_∧F.le G∧Qw m [hpB G,Ps.pB b v l.length k]) ?_ (fun r m' ⟨p,j,G,pu,u,h1,h2,h3,h4,h5,h6,h7⟩=>⟨_,_,h6.symm,h7,p,j,G,pu,u,h1,h2,h3,h4,h5,rfl,rfl⟩) (fun ch m' ⟨j,x,G,k,h1,h2,h3,h4,h5⟩=>⟨_,h5,j,x,G,k,h1,h2,h3,h4,rfl⟩)
 unfold Ps.pB at cp ⊢
 refine ax Tryz.func88 rfl (by decide) ?_
 repeat' first|(intro K Kp hK hP;(with_reducible refine gCX ?_);(refine cX [0,1] cp rfl rfl ?_ ?_;((rintro _ _ ⟨p,j,G,pu,u,h1,h2,h3,h4,h5,rfl,rfl⟩)<;>refine ⟨rfl,_,rfl,?_⟩);rotate_right;((rintro _ _ ⟨j,x,G,k,h1,h2,rfl,h4,rfl⟩)<;>refine ⟨rfl,?_⟩);all_goals (conv=>whnf)))|(refine ah ?_;(try clear hP hK Kp K);try clear hK K)|refine sxW ?_ ?_<;>intro _|(intro K Kp hK hP _;conv=>whnf)|(intro K hK _;conv=>whnf)
 ·exact ⟨j,x,G,k,h1,h2,rfl,h4,Qw.pre 2 rfl⟩
 ·exact ⟨p,j,G,pu,u,h1,h2,h3,h4,h5,rfl,Qw.pre 2 rfl⟩
theorem mz (tx:List UInt8) (hs:tx.length≤4000) (L:List (Lx.B × List UInt8)) (hL:Lx.toks tx=some L) (hl:L.length≤500) (F:Heap) :
  Qz Tryz.prog 49 [.str tx] [hpB F] fun r m =>
   (∃ x G pu u,Ps.whole ((Lx.res tx L).map Lx.b) (Ps.rows ((Lx.res tx L).map Lx.b) (Ps.step ((Lx.res tx L).map Lx.b) ((Lx.res tx L).map Lx.b).length) 0) = .ok x 0∧F.le G∧Po.At G x pu u∧r = .tup [.agg (Po.cs x pu u),.int .i64 0,.int .i64 0]∧m=[hpB G]) ∨
   (∃ j y G,Ps.whole ((Lx.res tx L).map Lx.b) (Ps.rows ((Lx.res tx L).map Lx.b) (Ps.step ((Lx.res tx L).map Lx.b) ((Lx.res tx L).map Lx.b).length) 0) = .bad j∧(Lx.res tx L)[j]?=some y∧F.le G∧r = .tup [.agg [.int .i64 0,.int .i64 0,.int .i64 0,.int .i64 0,.raw (.slice none 0 0),.int .i64 0,.int .i64 0,.raw (.slice none 0 0)],.int .i64 y.at_,.int .i64 10]∧m=[hpB G]):=by
 have h0:0<(Lx.res tx L).length:=by simp [Lx.res]
 have cw:=mV 88 tx hs L hL hl _ (fun v=>qD v _ _ (lO v _ (Ps.good_res hl) h0)) F
 refine Qz.fits (K:=fun r m=>(∃ x G pu u,Ps.whole ((Lx.res tx L).map Lx.b) (Ps.rows ((Lx.res tx L).map Lx.b) (Ps.step ((Lx.res tx L).map Lx.b) ((Lx.res tx L).map Lx.b).length) 0) = .ok x 0∧F.le G∧Po.At G x pu u∧r.den=(AV.tup [.agg (Po.cs x pu u),.int .i64 0,.int .i64 0]).den∧Qw m [hpB G]) ∨
   (∃ j y G,Ps.whole ((Lx.res tx L).map Lx.b) (Ps.rows ((Lx.res tx L).map Lx.b) (Ps.step ((Lx.res tx L).map Lx.b) ((Lx.res tx L).map Lx.b).length) 0) = .bad j∧(Lx.res tx L)[j]?=some y∧F.le G∧r.den=(AV.tup [.agg [.int .i64 0,.int .i64 0,.int .i64 0,.int .i64 0,.raw (.slice none 0 0),.int .i64 0,.int .i64 0,.raw (.slice none 0 0)],.int .i64 y.at_,.int .i64 10]).den∧Qw m [hpB G])) ?_ fun r m' hq=>?_
 rotate_left
 ·rcases hq with ⟨x,G,pu,u,h1,h2,h3,h4,h5⟩ | ⟨j,y,G,h1,h2,h3,h4,h5⟩
  ·exact ⟨_,_,h4.symm,h5,.inl ⟨x,G,pu,u,h1,h2,h3,rfl,rfl⟩⟩
  ·exact ⟨_,_,h4.symm,h5,.inr ⟨j,y,G,h1,h2,h3,rfl,rfl⟩⟩
 generalize Ps.whole ((Lx.res tx L).map Lx.b) (Ps.rows ((Lx.res tx L).map Lx.b) (Ps.step ((Lx.res tx L).map Lx.b) ((Lx.res tx L).map Lx.b).length) 0)=q at *
 refine aB Tryz.func49 rfl (by decide) ?_
 rcases q with ⟨x,i⟩ | j
 ·have cw1:Qz Tryz.prog 87 [.str tx,.fn 88 [] []] [hpB F] fun r m=>∃ G pu u,i=0∧F.le G∧Po.At G x pu u∧r = .tup [.agg (Po.cs x pu u),.int .i64 0,.int .i64 0]∧m=[hpB G]:=cw.mono fun r m h=>by
   rcases h with ⟨x',G,pu,u,h1,h2,h3,h4,h5⟩ | ⟨j,y,G,h1,_⟩
   ·cases h1
    exact ⟨G,pu,u,rfl,h2,h3,h4,h5⟩
   ·cases h1
  repeat' first|(intro K hK;(with_reducible refine gC ?_);(refine cN [0] cw1 ?_;rintro _ _ ⟨G,pu,u,h1,h2,h3,rfl,rfl⟩;refine cR ?_))|(refine sxZ ?_;try clear hK K)|refine sxW ?_ ?_<;>intro _|(intro K hK _;conv=>whnf)
  all_goals exact .inl ⟨x,G,pu,u,by rw [h1],h2,h3,rfl,Qw.pre 1 rfl⟩
 ·have cw1:Qz Tryz.prog 87 [.str tx,.fn 88 [] []] [hpB F] fun r m=>∃ y G,(Lx.res tx L)[j]?=some y∧F.le G∧r = .tup [.agg [.int .i64 0,.int .i64 0,.int .i64 0,.int .i64 0,.raw (.slice none 0 0),.int .i64 0,.int .i64 0,.raw (.slice none 0 0)],.int .i64 y.at_,.int .i64 10]∧m=[hpB G]:=cw.mono fun r m h=>by
   rcases h with ⟨x',G,pu,u,h1,_⟩ | ⟨j,y,G,h1,h2,h3,h4,h5⟩
   ·cases h1
   ·cases h1
    exact ⟨y,G,h2,h3,h4,h5⟩
  repeat' first|(intro K hK;(with_reducible refine gC ?_);(refine cN [0] cw1 ?_;rintro _ _ ⟨y,G,h2,h3,rfl,rfl⟩;refine cR ?_))|(refine sxZ ?_;try clear hK K)|refine sxW ?_ ?_<;>intro _|(intro K hK _;conv=>whnf)
  all_goals exact .inr ⟨j,y,G,rfl,h2,h3,rfl,Qw.pre 1 rfl⟩
namespace Tr
end Tr
end Go.Proofs.YtmehinfgdcmmjaaGreatDoor
