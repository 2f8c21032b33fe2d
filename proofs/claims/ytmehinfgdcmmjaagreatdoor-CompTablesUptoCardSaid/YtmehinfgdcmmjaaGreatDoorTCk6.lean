/- A part of the proof. -/
import Derived.Test.YtmehinfgdcmmjaaGreatDoorTTp1
import Derived.Test.YtmehinfgdcmmjaaGreatDoorTJ15
import Derived.Test.YtmehinfgdcmmjaaGreatDoorTJ19
import Derived.Test.YtmehinfgdcmmjaaGreatDoorTJ20
namespace Go.Proofs.YtmehinfgdcmmjaaGreatDoor
open Go.Sx
set_option maxRecDepth 20000
set_option linter.unusedSimpArgs false
set_option linter.unusedVariables false
set_option maxHeartbeats 4000000
namespace Po
def cellsN (x:T):Nat→Nat
 | 0=>1
 | i+1=>min (cellsN x i*((values i x).length+1)) 100000
def cells (x:T):Nat:=cellsN x 5
theorem cellsN_le (x:T):∀ i,cellsN x i≤100000
 | 0=>by simp [cellsN]
 | i+1=>by rw [cellsN];omega
def check (bt:Bool) (t:Tp.T) (x:T):Int:=if bt=false then 2 else if right x=false then 17 else if (values 4 x).any (fun p=>!Tp.named t p)=true then 13 else if (values 5 x).any (fun s=>decide (s≥t.n))=true then 13 else if cells x>4096 then 6 else 0
end Po
theorem rN {F:Heap} {v:Value} {l:List Int} (h:Srt.Row F v l) {i:Nat} {x:Int} (hx:l[i]?=some x):F.c ((addrOf v).add i) (.int .i64 x):=by
 obtain ⟨us,rfl,_,h2⟩:=h.at_ i x hx
 rw [Nat.mul_one] at h2
 exact h2.1
section
variable (F:Heap)
theorem ou (q:Int→Bool) (v:Value) (l:List Int) (hv:Srt.Row F v l) (hn:l.length≤4611686018427387904) (g:FuncId) (first captured:List AV)
  (hg:∀ x∈l,Qz Tryz.prog g (first++[.int .i64 x]++captured) [hpB F] fun r m=>r = .bool (q x)∧m=[hpB F]) :
  Qz Tryz.prog 132 [.hs v l.length,.fn g first captured] [hpB F] fun r m=>(∃ j:Int,r = .int .i64 j∧(0≤j↔l.any q=true))∧m=[hpB F]:=by
 have hok:=hv.ok
 refine aB Tryz.func132 rfl (by decide) ?_
 repeat' first|(refine sxZ ?_;try clear hK K)|refine sxW ?_ ?_<;>intro _|(intro K hK _;conv=>whnf)
 refine aE (α:=Nat) (fun k=>k≤l.length∧(l.take k).any q=false) (fun k=>[.k,.k,.k,.k,.d,.d,.k,.k,.set (.int .i64 k),.d,.d,.d,.d,.d,.d,.d,.d,.d,.d]) (fun _=>[]) (fun k=>l.length - k) 0 ⟨Nat.zero_le _,rfl⟩ ?_ (Qw.eq rfl) ?_
 ·exact aD
 (intro k ⟨hk,hgone⟩;intro K hK;(conv=>whnf);refine hK _ _ ?_;clear hK K)
 by_cases hlt:k<l.length
 ·have hx:l[k]?=some l[k]:=List.getElem?_eq_getElem hlt
  have c0:=rN hv hx
  have c:=hg _ (List.getElem_mem hlt)
  have hnx:=gi (q:=q) hx
  have hat:=lw (q:=q) hx
  generalize l[k]=x at *
  cases hq:q x with
  | false =>
   rw [hq] at c
   repeat' first|(intro K hK;(with_reducible refine gC ?_);refine cS [0] c ?_)|(refine sxZ ?_;try clear hK K)|refine sxW ?_ ?_<;>intro _|(intro K hK _;conv=>whnf)
   refine aC (k+1) ⟨hlt,by rw [hnx,hgone,hq];rfl⟩ (by omega) ?_ (Qw.eq rfl)
   exact aD
  | true =>
   rw [hq] at c
   repeat' first|(intro K hK;(with_reducible refine gC ?_);refine cS [0] c ?_)|(refine sxZ ?_;try clear hK K)|refine sxW ?_ ?_<;>intro _|(intro K hK _;conv=>whnf)
   exact ⟨⟨_,rfl,⟨fun _=>hat hq,fun _=>by omega⟩⟩,rfl⟩
 ·have hkl:k=l.length:=by omega
  subst hkl
  rw [List.take_length] at hgone
  repeat' first|(refine sxZ ?_;try clear hK K)|refine sxW ?_ ?_<;>intro _|(intro K hK _;conv=>whnf)
  exact ⟨⟨_,rfl,⟨fun h=>by omega,fun h=>by rw [hgone] at h;cases h⟩⟩,rfl⟩
theorem fR (q:Int→Bool) (v:Value) (l:List Int) (hv:Srt.Row F v l) (hn:l.length≤4611686018427387904) (g:FuncId) (first captured:List AV)
  (hg:∀ x∈l,Qz Tryz.prog g (first++[.int .i64 x]++captured) [hpB F] fun r m=>r = .bool (q x)∧m=[hpB F]) :
  Qz Tryz.prog 91 [.hs v l.length,.fn g first captured] [hpB F] fun r m=>r = .bool (l.any q)∧m=[hpB F]:=by
 have hi:=ou F q v l hv hn g first captured hg
 refine aB Tryz.func91 rfl (by decide) ?_
 repeat' first|(intro K hK;(with_reducible refine gC ?_);(refine cN [0] hi ?_;rintro _ _ ⟨⟨j,rfl,hj⟩,rfl⟩;refine cR ?_))|(refine sxZ ?_;try clear hK K)|refine sxW ?_ ?_<;>intro _|(intro K hK _;conv=>whnf)
 all_goals
  refine ⟨?_,rfl⟩
  congr 1
  by_cases h:0≤j
  ·rw [hj.1 h];exact decide_eq_true h
  ·rw [show l.any q=false by cases e:l.any q with | false=>rfl | true=>exact (h (hj.2 e)).elim];exact decide_eq_false h
end
theorem iW (F:Heap) (x:Po.T) (pu u:Value) (hs:Po.tot x≤2932031007402) (hx:Po.At F x pu u):Qz Tryz.prog 56 [.agg (Po.cs x pu u)] [hpB F] fun r m=>r = .int .i64 (Po.cells x:Nat)∧m=[hpB F]:=by
 refine Qz.fits (K:=fun r m=>r = .int .i64 (Po.cells x:Nat)∧∃ F',F.le F'∧Qw m [hpB F']) ?_ fun r m' ⟨h1,F',h2,h3⟩=>⟨r,_,rfl,h3.trans (Qw.less h2 []),h1,rfl⟩
 have hok:=hx.l.ok
 have hpok:=hx.p.ok
 have cv:=fun (G:Heap) (hG:F.le G) (f:Nat) (hf:f≤5)=>dR G x pu u f (by omega) hs (Po.At.mono hG hx)
 have hcl:=Po.cellsN_le x
 have hvl:=fun f=>Po.values_len f x
 unfold Po.cells
 have hnx:∀ i,Po.cellsN x (i+1)=min (Po.cellsN x i*((Po.values i x).length+1)) 100000:=fun i=>by rw [Po.cellsN]
 have hbig:∀ i,Po.cellsN x i*((Po.values i x).length+1)≤293203100740300000:=fun i=>by
  have h1:=hcl i
  have h2:=hvl i
  calc _≤100000*(2932031007402+1):=Nat.mul_le_mul h1 (by omega)
   _≤_:=by decide
 have h0:Po.cellsN x 0=1:=rfl
 have hlv:∀ f,(Po.values f x).length≤2932031007402:=fun f=>Nat.le_trans (hvl f) hs
 clear hx hs hvl
 generalize hC:Po.cellsN x=C at *
 obtain ⟨k,⟨pk,pf,pv,pl⟩,f,v0,l⟩:=x
 simp only [Srt.Lays,Po.cs,Po.T.k,Po.T.p,Po.T.f,Po.T.v,Po.T.l,Pd.T.k,Pd.T.f,Pd.T.v,Pd.T.l] at *
 refine aB Tryz.func56 rfl (by decide) ?_
 repeat' first|(refine sxZ ?_;try clear hK K)|refine sxW ?_ ?_<;>intro _|(intro K hK _;conv=>whnf)
 refine aE (α:=Heap × Nat) (fun (G,i)=>F.le G∧i≤5) (fun (G,i)=>[.k,.k,.k,.set (.int .i64 (C i:Nat)),.set (.int .i64 i),.d,.d,.d,.d,.d,.d,.d,.d,.d,.d,.d,.d,.k]) (fun (G,i)=>[.set (hpB G)]) (fun (G,i)=>5 - i) (F,0) ⟨F.le_refl,by decide⟩ ?_ (Qw.eq rfl) ?_
 ·repeat (first | exact Qq.nil | refine Qq.any ?_ | refine Qq.cons (Fit1.int (by  simp [h0])) ?_ | refine Qq.cons (Fit1.int (by first | rfl | omega)) ?_ | refine Qq.cons (Fit1.bool rfl) ?_ | refine Qq.cons (Fit1.str rfl) ?_ | refine Qq.cons (Fit1.same (by intro h;cases h) (by with_reducible rfl)) ?_ | refine Qq.cons Fit1.nil_sl ?_ | refine Qq.cons (Fit1.hs rfl) ?_ | refine Qq.cons (Fit1.hp rfl rfl) ?_ | refine Qq.cons (Fit1.sl rfl) ?_ | refine Qq.cons (Fit1.ptr rfl rfl) ?_ | refine Qq.cons Fit1.raw ?_)
 (intro ⟨G,i⟩ ⟨hle,hi⟩;intro K hK;(conv=>whnf);refine hK _ _ ?_;clear hK K)
 dsimp only
 by_cases hlt:i<5
 ·have c:=(cv G hle i (by omega)).mono (K':=fun r m=>∃ F' v,G.le F'∧SlOk v (Po.values i (.mk k (.mk pk pf pv pl) f v0 l)).length∧r = .hs v (Po.values i (.mk k (.mk pk pf pv pl) f v0 l)).length∧m=[hpB F']) fun r m ⟨F',v,h1,h2,h3,h4⟩=>⟨F',v,h1,h2.ok,h3,h4⟩
  have hn:=hnx i
  have hb:=hbig i
  have hl:=hlv i
  have hc:=hcl i
  clear cv hnx hbig hlv hcl
  generalize Po.values i (.mk k (.mk pk pf pv pl) f v0 l)=L at *
  generalize C i=c0 at *
  have hprod:((c0:Int)*((L.length:Int)+1))=((c0*(L.length+1):Nat):Int):=by push_cast;rfl
  repeat' first|(intro K hK;(with_reducible refine gC ?_);(refine cN [0] c ?_;rintro _ _ ⟨F',w',hle2,hok2,rfl,rfl⟩;refine cR ?_))|(refine sxZ ?_;try clear hK K)|refine sxW ?_ ?_<;>intro _|(intro K hK _;conv=>whnf)
  refine aC (F',i+1) ⟨hle.trans hle2,hlt⟩ (show 5 - (i+1)<5 - i by omega) ?_ (Qw.pre 2 rfl)
  repeat (first | exact Qq.nil | refine Qq.any ?_ | refine Qq.cons (Fit1.int (by  (simp only [hn];omega))) ?_ | refine Qq.cons (Fit1.int (by first | rfl | omega)) ?_ | refine Qq.cons (Fit1.bool rfl) ?_ | refine Qq.cons (Fit1.str rfl) ?_ | refine Qq.cons (Fit1.same (by intro h;cases h) (by with_reducible rfl)) ?_ | refine Qq.cons Fit1.nil_sl ?_ | refine Qq.cons (Fit1.hs rfl) ?_ | refine Qq.cons (Fit1.hp rfl rfl) ?_ | refine Qq.cons (Fit1.sl rfl) ?_ | refine Qq.cons (Fit1.ptr rfl rfl) ?_ | refine Qq.cons Fit1.raw ?_)
 ·obtain rfl:i=5:=by omega
  repeat' first|(refine sxZ ?_;try clear hK K)|refine sxW ?_ ?_<;>intro _|(intro K hK _;conv=>whnf)
  all_goals exact ⟨rfl,G,hle,Qw.pre 1 rfl⟩
theorem pU (F:Heap) (t:Tp.T) (lv hv:Value) (p:Int) (b:Addr) (ht:Tp.At F t lv hv) (hl:t.ls.length≤1000) (hh:t.hs.length≤1000) (hb:CellsF F b 0 (denL (Tp.cs t lv hv))):Qz Tryz.prog 92 [.int .i64 p,.hp b 0] [hpB F] fun r m=>r = .bool (!Tp.named t p)∧m=[hpB F]:=by
 refine Qz.fits (K:=fun r m=>r = .bool (!Tp.named t p)∧Qw m [hpB F]) ?_ fun r m' h=>⟨r,_,rfl,h.2,h.1,rfl⟩
 have cn:=nG F t lv hv p ht hl hh
 obtain ⟨lA,lcap,hlv,hl1,hl2⟩:=ht.l.ok
 obtain ⟨hA,hcap,hhv,hh1,hh2⟩:=ht.h.ok
 generalize Tp.named t p=bn at *
 subst hlv hhv
 obtain ⟨c0,c1,c2,_⟩:=hb
 unfold Tp.cs at cn
 refine aB Tryz.func92 rfl (by decide) ?_
 repeat' first|(intro K hK;(with_reducible refine gC ?_);refine cS [0] cn ?_)|(refine sxZ ?_;try clear hK K)|refine sxW ?_ ?_<;>intro _|(intro K hK _;conv=>whnf)
 all_goals exact ⟨rfl,Qw.pre 1 rfl⟩
theorem pT (F:Heap) (n:Int) (s:Int) (b:Addr) (hb:F.c (b.add 0) (.int .i64 n)):Qz Tryz.prog 94 [.int .i64 s,.hp b 0] [hpB F] fun r m=>r = .bool (decide (s≥n))∧m=[hpB F]:=by
 refine Qz.fits (K:=fun r m=>r = .bool (decide (s≥n))∧Qw m [hpB F]) ?_ fun r m' h=>⟨r,_,rfl,h.2,h.1,rfl⟩
 refine aB Tryz.func94 rfl (by decide) ?_
 repeat' first|(refine sxZ ?_;try clear hK K)|refine sxW ?_ ?_<;>intro _|(intro K hK _;conv=>whnf)
 all_goals exact ⟨rfl,Qw.pre 1 rfl⟩
theorem ne (F:Heap) (t:Tp.T) (lv hv:Value) (x:Po.T) (pu u:Value) (bt:Bool) (ht:Tp.At F t lv hv) (hl:t.ls.length≤1000) (hh:t.hs.length≤1000) (hs:Po.tot x≤2932031007402) (hx:Po.At F x pu u)
  (cr:Qz Tryz.prog 90 [.agg (Tp.cs t lv hv)] [hpB F] fun r m=>r = .bool bt∧m=[hpB F]) :
  Qz Tryz.prog 50 [.agg (Tp.cs t lv hv),.agg (Po.cs x pu u)] [hpB F] fun r m=>r = .int .i64 (Po.check bt t x)∧m=[hpB F]:=by
 refine Qz.fits (K:=fun r m=>r = .int .i64 (Po.check bt t x)∧∃ F',F.le F'∧Qw m [hpB F']) ?_ fun r m' ⟨h1,F',h2,h3⟩=>⟨r,_,rfl,h3.trans (Qw.less h2 []),h1,rfl⟩
 have hlo:=ht.l.ok
 have hho:=ht.h.ok
 have hok:=hx.l.ok
 have hpok:=hx.p.ok
 have crt:=gz F x pu u (by omega) hx
 have c4:=(dR F x pu u 4 (by omega) hs hx)
 have c5:=fun G (hG:F.le G)=>(dR G x pu u 5 (by omega) hs (Po.At.mono hG hx))
 have cc:=fun G (hG:F.le G)=>iW G x pu u hs (Po.At.mono hG hx)
 have hl4:=Po.values_len 4 x
 have hl5:=Po.values_len 5 x
 have k1:∀ G (hG:F.le G) (b:Addr) (v:Value) (L:List Int),Srt.Row G v L→L.length≤2932031007402→Qz Tryz.prog 91 [.hs v L.length,.fn 92 [] [.ptr 1 b 0]] [hpB G,⟨b,Tp.cs t lv hv,.var 66⟩] fun r m=>r = .bool (L.any fun p=>!Tp.named t p)∧m=[hpB G,⟨b,Tp.cs t lv hv,.var 66⟩]:=fun G hG b v L hv' hL =>
  Qz.keep (fR (addF G b (denL (Tp.cs t lv hv))) (fun p=>!Tp.named t p) v L (aI.mono addF.old (fun _ _ h=>h) hv') (by omega) 92 [] [.hp b 0] fun p _=>pU _ t lv hv p b (Tp.At.mono (hG.trans addF.old) ht) hl hh addF.new) rfl (Qw.freezeVar (m:=[])) rfl fun r mL' h=>⟨r,rfl,h.1,rfl⟩
 have k2:∀ G (hG:F.le G) (b:Addr) (v:Value) (L:List Int),Srt.Row G v L→L.length≤2932031007402→Qz Tryz.prog 91 [.hs v L.length,.fn 94 [] [.ptr 1 b 0]] [hpB G,⟨b,Tp.cs t lv hv,.var 66⟩] fun r m=>r = .bool (L.any fun s=>decide (s≥t.n))∧m=[hpB G,⟨b,Tp.cs t lv hv,.var 66⟩]:=fun G hG b v L hv' hL=>by
  have hnew:=addF.new (F:=G) (a:=b) (vs:=denL (Tp.cs t lv hv))
  obtain ⟨d0,_⟩:=hnew
  exact Qz.keep (fR (addF G b (denL (Tp.cs t lv hv))) (fun s=>decide (s≥t.n)) v L (aI.mono addF.old (fun _ _ h=>h) hv') (by omega) 94 [] [.hp b 0] fun s _=>pT _ t.n s b d0) rfl (Qw.freezeVar (m:=[])) rfl fun r mL' h=>⟨r,rfl,h.1,rfl⟩
 unfold Po.check
 generalize Po.right x=br at *
 generalize Po.cells x=nc at *
 generalize Po.values 4 x=L4 at *
 generalize Po.values 5 x=L5 at *
 have k1:=fun G hG b v hv=>k1 G hG b v L4 hv (by omega)
 have k2:=fun G hG b v hv=>k2 G hG b v L5 hv (by omega)
 clear ht hlo hho
 generalize (L4.any fun p=>!Tp.named t p)=b4 at *
 generalize (L5.any fun s=>decide (s≥t.n))=b5 at *
 have c4:=c4.mono (K':=fun r m=>∃ F' v,F.le F'∧Srt.Row F' v L4∧SlOk v L4.length∧r = .hs v L4.length∧m=[hpB F']) fun r m ⟨F',v,h1,h2,h3,h4⟩=>⟨F',v,h1,h2,h2.ok,h3,h4⟩
 have c5:=fun G hG=>(c5 G hG).mono (K':=fun r m=>∃ F' v,G.le F'∧Srt.Row F' v L5∧SlOk v L5.length∧r = .hs v L5.length∧m=[hpB F']) fun r m ⟨F',v,h1,h2,h3,h4⟩=>⟨F',v,h1,h2,h2.ok,h3,h4⟩
 obtain ⟨k,⟨pk,pf,pv,pl⟩,f,v0,l⟩:=x
 obtain ⟨tn,ls,hs'⟩:=t
 simp only [Tp.cs,Po.cs,Po.T.k,Po.T.p,Po.T.f,Po.T.v,Po.T.l,Pd.T.k,Pd.T.f,Pd.T.v,Pd.T.l] at *
 refine aB Tryz.func50 rfl (by decide) ?_
 cases bt
 ·repeat' first|(intro K hK;(with_reducible refine gC ?_);refine cS [0] cr ?_)|(refine sxZ ?_;try clear hK K)|refine sxW ?_ ?_<;>intro _|(intro K hK _;conv=>whnf)
  all_goals exact ⟨rfl,F,F.le_refl,Qw.pre 1 rfl⟩
 cases br
 ·repeat' first|(intro K hK;(with_reducible refine gC ?_);first|refine cS [0] cr ?_|refine cS [0] crt ?_)|(refine sxZ ?_;try clear hK K)|refine sxW ?_ ?_<;>intro _|(intro K hK _;conv=>whnf)
  all_goals exact ⟨rfl,F,F.le_refl,Qw.pre 1 rfl⟩
 cases b4
 case true =>
  repeat' first|(intro K hK;(with_reducible refine gC ?_);first|refine cS [0] cr ?_|refine cS [0] crt ?_|(refine cN [0] c4 ?_;rintro _ _ ⟨F1,v1,hle1,hr1,hok1,rfl,rfl⟩;refine cR ?_)|refine cS [0,1] (k1 F1 hle1 _ v1 hr1) ?_)|(refine sxZ ?_;try clear hK K)|refine sxW ?_ ?_<;>intro _|(intro K hK _;conv=>whnf)
  all_goals exact ⟨rfl,F1,hle1,Qw.pre 1 rfl⟩
 cases b5
 case true =>
  repeat' first|(intro K hK;(with_reducible refine gC ?_);first|refine cS [0] cr ?_|refine cS [0] crt ?_|(refine cN [0] c4 ?_;rintro _ _ ⟨F1,v1,hle1,hr1,hok1,rfl,rfl⟩;refine cR ?_)|refine cS [0,1] (k1 F1 hle1 _ v1 hr1) ?_|(refine cN [0] (c5 F1 hle1) ?_;rintro _ _ ⟨F2,v2,hle2,hr2,hok2,rfl,rfl⟩;refine cR ?_)|refine cS [0,1] (k2 F2 (hle1.trans hle2) _ v2 hr2) ?_)|(refine sxZ ?_;try clear hK K)|refine sxW ?_ ?_<;>intro _|(intro K hK _;conv=>whnf)
  all_goals exact ⟨rfl,F2,hle1.trans hle2,Qw.pre 1 rfl⟩
 repeat' first|(intro K hK;(with_reducible refine gC ?_);first|refine cS [0] cr ?_|refine cS [0] crt ?_|(refine cN [0] c4 ?_;rintro _ _ ⟨F1,v1,hle1,hr1,hok1,rfl,rfl⟩;refine cR ?_)|refine cS [0,1] (k1 F1 hle1 _ v1 hr1) ?_|(refine cN [0] (c5 F1 hle1) ?_;rintro _ _ ⟨F2,v2,hle2,hr2,hok2,rfl,rfl⟩;refine cR ?_)|refine cS [0,1] (k2 F2 (hle1.trans hle2) _ v2 hr2) ?_|refine cS [0] (cc F2 (hle1.trans hle2)) ?_)|(refine sxZ ?_;try clear hK K)|refine sxW ?_ ?_<;>intro _|(intro K hK _;conv=>whnf)
 all_goals
  refine ⟨?_,F2,hle1.trans hle2,Qw.pre 1 rfl⟩
  simp
  omega
end Go.Proofs.YtmehinfgdcmmjaaGreatDoor
