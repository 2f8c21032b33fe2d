/- A part of the proof. -/
import Derived.Test.YtmehinfgdcmmjaaGreatDoorTJ5
import Derived.Test.YtmehinfgdcmmjaaGreatDoorTJ17
import Derived.Test.YtmehinfgdcmmjaaGreatDoorTJ22
namespace Go.Proofs.YtmehinfgdcmmjaaGreatDoor
open Go.Sx
set_option maxRecDepth 20000
set_option linter.unusedSimpArgs false
set_option linter.unusedVariables false
namespace Ac
theorem take_next {α:Type} {l:List α} {k:Nat} {x:α} (h:l[k]?=some x):l.take (k+1)=l.take k++[x]:=by
 rw [List.take_add_one,h];rfl
end Ac
theorem lC {a b:List Ac.A} (hl:a.length=b.length) (h:∀ j,j<a.length→a[j]?=b[j]?):a=b:=List.ext_getElem? fun j=>by
 by_cases hj:j<a.length
 ·exact h j hj
 ·rw [List.getElem?_eq_none (by omega),List.getElem?_eq_none (by omega)]
set_option maxHeartbeats 1000000 in
theorem lG (F:Heap) (v w:Value) (a b:List Ac.A) (hv:aI F 3 (fun x vs=>vs=Ac.actV x) v a) (hw:aI F 3 (fun x vs=>vs=Ac.actV x) w b) (ha:a.length≤9223372036854775807) (hb:b.length≤9223372036854775807) :
  Qz Tryz.prog 79 [.hs v a.length,.hs w b.length] [hpB F] fun r m=>r = .bool (decide (a=b))∧m=[hpB F]:=by
 have hok:=hv.ok
 have hokw:=hw.ok
 refine aB Tryz.func79 rfl (by decide) ?_
 by_cases hl:a.length=b.length
 rotate_left
 ·repeat' first|(refine sxZ ?_;try clear hK K)|refine sxW ?_ ?_<;>intro _|(intro K hK _;conv=>whnf)
  exact ⟨boolF (fun e=>hl (by rw [e])),rfl⟩
 repeat' first|(refine sxZ ?_;try clear hK K)|refine sxW ?_ ?_<;>intro _|(intro K hK _;conv=>whnf)
 refine aE (α:=Nat) (fun k=>k≤a.length∧∀ j,j<k→a[j]?=b[j]?) (fun k=>[.k,.k,.k,.k,.d,.set (.int .i64 k),.k,.k,.k,.k,.k,.d,.d,.d,.d,.d,.d,.d,.d,.d,.d,.d,.d,.d,.d,.d]) (fun _=>[]) (fun k=>a.length - k) 0 ⟨Nat.zero_le _,fun j hj=>absurd hj (Nat.not_lt_zero _)⟩ ?_ (Qw.eq rfl) ?_
 ·exact aD
 (intro k ⟨hk,hgone⟩;intro K hK;(conv=>whnf);refine hK _ _ ?_;clear hK K)
 by_cases hlt:k<a.length
 ·have hlt2:k<b.length:=by omega
  obtain ⟨g0,g1,g2⟩:=hv.get3 hlt
  obtain ⟨e0,e1,e2⟩:=hw.get3 hlt2
  have hx:a[k]?=some a[k]:=List.getElem?_eq_getElem hlt
  have hy:b[k]?=some b[k]:=List.getElem?_eq_getElem hlt2
  generalize a[k]=x at *
  generalize b[k]=y at *
  by_cases hxy:x=y
  ·subst hxy
   obtain ⟨xk,xf,xv⟩:=x
   dsimp only at *
   repeat' first|((first|intro A B hA hB|intro K hK|skip);first|((with_reducible refine NIf.yes ?s ?_);(case s=>simp ;done);conv=>whnf)|((with_reducible refine NIf.no ?s ?_);(case s=>simp ;done);conv=>whnf))|(refine sxZ ?_;(try clear hK K);try clear hA hB A B)|refine sxW ?_ ?_<;>intro _|(intro K hK _;conv=>whnf)
   refine aC (k+1) ⟨hlt,fun j hj=>?_⟩ (by omega) ?_ (Qw.eq rfl)
   ·by_cases e:j=k
    ·subst e
     rw [hx,hy]
    ·exact hgone j (by omega)
   ·exact aD
  ·obtain ⟨xk,xf,xv⟩:=x
   obtain ⟨yk,yf,yv⟩:=y
   have hnb:(decide (xk=yk)&&(decide (xf=yf)&&(decide (xv=yv)&&true)))=false:=by
    refine Bool.eq_false_iff.2 fun h=>hxy ?_
    simp only [Bool.and_eq_true,decide_eq_true_eq,and_true] at h
    obtain ⟨rfl,rfl,rfl⟩:=h
    rfl
   dsimp only at *
   repeat' first|((first|intro A B hA hB|intro K hK|skip);first|((with_reducible refine NIf.yes ?s ?_);(case s=>(rw [hnb];rfl));conv=>whnf)|((with_reducible refine NIf.no ?s ?_);(case s=>(rw [hnb];rfl));conv=>whnf))|(refine sxZ ?_;(try clear hK K);try clear hA hB A B)|refine sxW ?_ ?_<;>intro _|(intro K hK _;conv=>whnf)
   exact ⟨boolF (fun e=>hxy (by subst e;rw [hx] at hy;injection hy)),rfl⟩
 ·repeat' first|(refine sxZ ?_;try clear hK K)|refine sxW ?_ ?_<;>intro _|(intro K hK _;conv=>whnf)
  exact ⟨boolT (lC hl fun j hj=>hgone j (by omega)),rfl⟩
set_option maxHeartbeats 4000000
namespace Tr
def fewN (x:Po.T):Nat→Nat
 | 0=>1
 | i+1=>fewN x i*((Po.asked i x ((Pd.top i).toNat+1)).length+1)
def few (x:Po.T):Bool:=decide (fewN x 5≤300)&&decide (Po.size x≤150)
theorem fewN_next (x:Po.T) (i:Nat):fewN x (i+1)=fewN x i*((Po.asked i x ((Pd.top i).toNat+1)).length+1):=by rw [fewN]
theorem fewN_mono (x:Po.T) (i:Nat):fewN x i≤fewN x (i+1):=by
 rw [fewN_next]
 exact Nat.le_mul_of_pos_right _ (Nat.succ_pos _)
theorem fewN_le (x:Po.T):∀ (i j:Nat),i≤j→fewN x i≤fewN x j
 | i, 0, h => by obtain rfl : i = 0 := by omega
                 exact Nat.le_refl _
 | i,j+1,h=>by
  by_cases e:i=j+1
  ·subst e;exact Nat.le_refl _
  ·exact Nat.le_trans (fewN_le x i j (by omega)) (fewN_mono x j)
theorem vl (sw:Int) (x:Po.T) (hf:Po.fits x=true) (i:Nat):(Po.values i (Po.spec sw x)).length+1≤(Po.asked i x ((Pd.top i).toNat+1)).length+1:=by
 have h:=Po.spec_vlen sw i x hf
 rw [Po.asked_values _ x hf]
 omega
theorem few_cells (sw:Int) (x:Po.T) (hf:Po.fits x=true):∀ i,Po.cellsN (Po.spec sw x) i≤fewN x i
 | 0=>Nat.le_refl _
 | i+1=>by
  have h1:=Nat.mul_le_mul (few_cells sw x hf i) (vl sw x hf i)
  rw [Po.cellsN,fewN_next]
  omega
theorem few_cnt (sw:Int) (x:Po.T) (hf:Po.fits x=true):cnt (Po.spec sw x) order≤fewN x 5:=by
 have h0:=vl sw x hf 0
 have h1:=vl sw x hf 1
 have h2:=vl sw x hf 2
 have h3:=vl sw x hf 3
 have h4:=vl sw x hf 4
 have e:fewN x 5=((Po.asked (4:Nat) x ((Pd.top (4:Nat)).toNat+1)).length+1)*(((Po.asked (0:Nat) x ((Pd.top (0:Nat)).toNat+1)).length+1)*(((Po.asked (1:Nat) x ((Pd.top (1:Nat)).toNat+1)).length+1)*(((Po.asked (2:Nat) x ((Pd.top (2:Nat)).toNat+1)).length+1)*(((Po.asked (3:Nat) x ((Pd.top (3:Nat)).toNat+1)).length+1)*1)))):=by
  rw [fewN_next,fewN_next,fewN_next,fewN_next,fewN_next]
  show 1*_*_*_*_*_=_
  generalize (Po.asked (0:Nat) x ((Pd.top (0:Nat)).toNat+1)).length+1=a0
  generalize (Po.asked (1:Nat) x ((Pd.top (1:Nat)).toNat+1)).length+1=a1
  generalize (Po.asked (2:Nat) x ((Pd.top (2:Nat)).toNat+1)).length+1=a2
  generalize (Po.asked (3:Nat) x ((Pd.top (3:Nat)).toNat+1)).length+1=a3
  generalize (Po.asked (4:Nat) x ((Pd.top (4:Nat)).toNat+1)).length+1=a4
  rw [Nat.one_mul,Nat.mul_one,Nat.mul_comm _ a4,Nat.mul_assoc (a0*a1),Nat.mul_assoc a0]
 rw [e]
 exact Nat.mul_le_mul h4 (Nat.mul_le_mul h0 (Nat.mul_le_mul h1 (Nat.mul_le_mul h2 (Nat.mul_le_mul h3 (Nat.le_refl _)))))
theorem few_iff {x:Po.T} (h:few x=true):fewN x 5≤300∧Po.size x≤150:=by
 unfold few at h
 simpa using h
end Tr
theorem qO (F:Heap) (x:Po.T) (pu u:Value) (hs:Po.tot x≤1000000000) (hx:Po.At F x pu u) :
  Qz Tryz.prog 6 [.agg (Po.cs x pu u)] [hpB F] fun r m=>r = .bool (Tr.few x)∧m=[hpB F]:=by
 refine Qz.fits (K:=fun r m=>r = .bool (Tr.few x)∧∃ F',F.le F'∧Qw m [hpB F']) ?_ fun r m' ⟨h1,F',h2,h3⟩=>⟨r,_,rfl,h3.trans (Qw.less h2 []),h1,rfl⟩
 have hok:=hx.l.ok
 have hpok:=hx.p.ok
 have cv:=fun (G:Heap) (hG:F.le G) (f:Nat) (hf:f≤5)=>eD G x pu u f (by omega) (by omega) (Po.At.mono hG hx)
 have cs:=fun G (hG:F.le G)=>dc G _ x pu u (Nat.le_refl _) (by omega) (Po.At.mono hG hx)
 have hal:∀ i:Nat,i<5→(Po.asked i x ((Pd.top i).toNat+1)).length≤256:=fun i hi=>by
  have h1:=Po.asked_len (i:Int) x ((Pd.top i).toNat+1)
  have h2:Pd.top i≤255:=by unfold Pd.top;split<;>first | omega | (split<;>first | omega | (split<;>omega))
  have h3:=Pd.top_nonneg i
  omega
 have hnx:=Tr.fewN_next x
 have hmo:=fun i (h:i≤5)=>Tr.fewN_le x i 5 h
 have h0:Tr.fewN x 0=1:=rfl
 unfold Tr.few
 generalize Po.size x=sz at *
 generalize hC:Tr.fewN x=C at *
 clear hC
 have hsz:True:=trivial
 clear hx
 obtain ⟨k,⟨pk,pf,pv,pl⟩,f,v0,l⟩:=x
 simp only [Srt.Lays,Po.cs,Po.T.k,Po.T.p,Po.T.f,Po.T.v,Po.T.l,Pd.T.k,Pd.T.f,Pd.T.v,Pd.T.l] at *
 refine aB Tryz.func6 rfl (by decide) ?_
 repeat' first|(refine sxZ ?_;try clear hK K)|refine sxW ?_ ?_<;>intro _|(intro K hK _;conv=>whnf)
 refine aE (α:=Heap × Nat) (fun (G,i)=>F.le G∧i≤5∧C i≤300) (fun (G,i)=>[.k,.k,.set (.bool false),.set (.int .i64 (C i:Nat)),.set (.int .i64 i),.d,.d,.d,.d,.d,.d,.d,.d,.d,.d,.d,.d,.d,.k,.k,.k]) (fun (G,i)=>[.set (hpB G)]) (fun (G,i)=>5 - i) (F,0) ⟨F.le_refl,by decide,by rw [h0];decide⟩ ?_ (Qw.eq rfl) ?_
 ·repeat (first | exact Qq.nil | refine Qq.any ?_ | refine Qq.cons (Fit1.int (by  simp [h0])) ?_ | refine Qq.cons (Fit1.int (by first | rfl | omega)) ?_ | refine Qq.cons (Fit1.bool rfl) ?_ | refine Qq.cons (Fit1.str rfl) ?_ | refine Qq.cons (Fit1.same (by intro h;cases h) (by with_reducible rfl)) ?_ | refine Qq.cons Fit1.nil_sl ?_ | refine Qq.cons (Fit1.hs rfl) ?_ | refine Qq.cons (Fit1.hp rfl rfl) ?_ | refine Qq.cons (Fit1.sl rfl) ?_ | refine Qq.cons (Fit1.ptr rfl rfl) ?_ | refine Qq.cons Fit1.raw ?_)
 (intro ⟨G,i⟩ ⟨hle,hi,hci⟩;intro K hK;(conv=>whnf);refine hK _ _ ?_;clear hK K)
 dsimp only
 by_cases hlt:i<5
 ·have c:=(cv G hle i (by omega)).mono (K':=fun r m=>∃ F' v,G.le F'∧SlOk v (Po.asked i (.mk k (.mk pk pf pv pl) f v0 l) ((Pd.top i).toNat+1)).length∧r = .hs v (Po.asked i (.mk k (.mk pk pf pv pl) f v0 l) ((Pd.top i).toNat+1)).length∧m=[hpB F']) fun r m ⟨F',v,h1,h2,h3,h4⟩=>⟨F',v,h1,h2.ok,h3,h4⟩
  have hn:=hnx i
  have hl:=hal i hlt
  have hmi:=hmo (i+1) (by omega)
  clear cv hnx hal hmo
  generalize Po.asked i (.mk k (.mk pk pf pv pl) f v0 l) ((Pd.top i).toNat+1)=L at *
  generalize C i=c0 at *
  have hprod:((c0:Int)*((L.length:Int)+1))=((c0*(L.length+1):Nat):Int):=by push_cast;rfl
  have hb:c0*(L.length+1)≤100000:=Nat.le_trans (Nat.mul_le_mul hci (show L.length+1≤257 by omega)) (by decide)
  rw [← hn] at hprod hb
  by_cases hgo:C (i+1)≤300
  ·repeat' first|(intro K hK;(with_reducible refine gC ?_);(refine cN [0] c ?_;rintro _ _ ⟨F',w',hle2,hok2,rfl,rfl⟩;refine cR ?_))|(refine sxZ ?_;try clear hK K)|refine sxW ?_ ?_<;>intro _|(intro K hK _;conv=>whnf)
   all_goals first | (exfalso;omega) | skip
   all_goals
    refine aC (F',i+1) ⟨hle.trans hle2,hlt,hgo⟩ (show 5 - (i+1)<5 - i by omega) ?_ (Qw.pre 2 rfl)
    repeat (first | exact Qq.nil | refine Qq.any ?_ | refine Qq.cons (Fit1.int (by  omega)) ?_ | refine Qq.cons (Fit1.int (by first | rfl | omega)) ?_ | refine Qq.cons (Fit1.bool rfl) ?_ | refine Qq.cons (Fit1.str rfl) ?_ | refine Qq.cons (Fit1.same (by intro h;cases h) (by with_reducible rfl)) ?_ | refine Qq.cons Fit1.nil_sl ?_ | refine Qq.cons (Fit1.hs rfl) ?_ | refine Qq.cons (Fit1.hp rfl rfl) ?_ | refine Qq.cons (Fit1.sl rfl) ?_ | refine Qq.cons (Fit1.ptr rfl rfl) ?_ | refine Qq.cons Fit1.raw ?_)
  ·have hno:¬ C 5≤300:=fun h=>hgo (Nat.le_trans hmi h)
   rw [decide_eq_false hno,Bool.false_and]
   repeat' first|(intro K hK;(with_reducible refine gC ?_);(refine cN [0] c ?_;rintro _ _ ⟨F',w',hle2,hok2,rfl,rfl⟩;refine cR ?_))|(refine sxZ ?_;try clear hK K)|refine sxW ?_ ?_<;>intro _|(intro K hK _;conv=>whnf)
   all_goals first | (exfalso;omega) | exact ⟨rfl,F',hle.trans hle2,Qw.pre 1 rfl⟩
 ·obtain rfl:i=5:=by omega
  rw [decide_eq_true hci,Bool.true_and]
  repeat' first|(intro K hK;(with_reducible refine gC ?_);refine cS [0] (cs G hle) ?_)|(refine sxZ ?_;try clear hK K)|refine sxW ?_ ?_<;>intro _|(intro K hK _;conv=>whnf)
  all_goals exact ⟨by first | rfl | (congr 1;exact decide_eq_decide.2 (by omega)),G,hle,Qw.pre 1 rfl⟩
end Go.Proofs.YtmehinfgdcmmjaaGreatDoor
