import Derived.Test.YtmehinfgdcmmjaaGreatJ41
import Derived.Test.YtmehinfgdcmmjaaGreatJ23
import Derived.Test.YtmehinfgdcmmjaaGreatJ28
import Derived.Test.YtmehinfgdcmmjaaGreatJ27
namespace Go.Proofs.YtmehinfgdcmmjaaGreat
open Go.Sx
set_option maxRecDepth 20000
set_option linter.unusedSimpArgs false
set_option linter.unusedVariables false
set_option maxHeartbeats 4000000
namespace Lx
def tokO (tx:List UInt8) (i:Nat):B:=match nextB (tx.drop i) with
 | none=>⟨0,0,[]⟩
 | some (b,_)=>b
theorem kd_L:(fun d=>decide (kd d=1))=isL:=funext fun c=>(kd_is c).2.1
theorem kd_D:(fun d=>decide (kd d=2))=isD:=funext fun c=>(kd_is c).2.2.1
theorem tw_wl (p:UInt8→Bool) (tx:List UInt8) (i:Nat):(tx.drop i).take (wl p tx i)=(tx.drop i).takeWhile p:=(tw_take _ _).1
theorem next_kd (tx:List UInt8) (i:Nat) (hi:i<tx.length) :
  nextB (tx.drop i) =
   if kd (tx.getD i 0)=1 then some (⟨1,0,(tx.drop i).takeWhile isL⟩,wl isL tx i)
   else if kd (tx.getD i 0)=2 then (if 0≤numD ((tx.drop i).takeWhile isD) then some (⟨2,numD ((tx.drop i).takeWhile isD),[]⟩,wl isD tx i) else none)
   else if kd (tx.getD i 0)=3 then some (⟨3,0,[tx.getD i 0]⟩,1)
   else if kd (tx.getD i 0)=5∧i+1<tx.length∧(tx.getD (i+1) 0).toNat=61 then some (⟨3,0,[58,61]⟩,2)
   else none:=by
 have hd:=drop_getD tx i hi
 obtain ⟨k0,k1,k2,k3,k4,k5⟩:=kd_is (tx.getD i 0)
 have hw1:wl isL tx i=((tx.drop i).takeWhile isL).length:=rfl
 have hw2:wl isD tx i=((tx.drop i).takeWhile isD).length:=rfl
 rw [hw1,hw2,hd]
 have hh:(tx.drop (i+1)).head?=some 61↔i+1<tx.length∧(tx.getD (i+1) 0).toNat=61:=by
  rcases Nat.lt_or_ge (i+1) tx.length with h | h
  ·rw [drop_getD tx (i+1) h,List.head?_cons]
   constructor
   ·intro e
    injection e with e
    exact ⟨h,by rw [e];rfl⟩
   ·rintro ⟨_,e⟩
    rw [show tx.getD (i+1) 0=61 from UInt8.toNat_inj.1 e]
  ·rw [List.drop_eq_nil_of_le h]
   constructor
   ·intro e;cases e
   ·rintro ⟨e,_⟩;omega
 generalize tx.drop (i+1)=r at *
 generalize tx.getD i 0=c at *
 rw [nextB_eq]
 by_cases h1:kd c=1
 ·rw [decide_eq_true h1] at k1
  rw [if_pos k1.symm,if_pos h1]
 rw [decide_eq_false h1] at k1
 rw [if_neg (by rw [← k1];decide),if_neg h1]
 by_cases h2:kd c=2
 ·rw [decide_eq_true h2] at k2
  rw [if_pos k2.symm,if_pos h2]
  obtain ⟨a,ha⟩:∃ a,(c::r).takeWhile isD=c::a:=⟨_,List.takeWhile_cons_of_pos k2.symm⟩
  have hall:((c::r).takeWhile isD).all isD=true:=List.all_eq_true.2 fun x hx=>tw_all hx
  rw [ha] at hall ⊢
  unfold numD valid
  rw [hall]
  by_cases hv:3<(c::a).length∨(1<(c::a).length∧c=48)
  ·rw [if_pos hv,if_neg]
   rw [if_neg]
   ·decide
   ·intro e
    simp only [Bool.and_eq_true,Bool.not_eq_true',decide_eq_true_eq,Bool.and_eq_false_iff,decide_eq_false_iff_not,List.head?_cons] at e
    obtain ⟨⟨⟨_,e1⟩,_⟩,e2⟩:=e
    rcases hv with hv | ⟨hv,hc⟩
    ·omega
    ·rcases e2 with e2 | e2
     ·exact e2 hv
     ·rw [hc] at e2;simp at e2
  ·have hval:(!(c::a).isEmpty&&decide ((c::a).length≤3)&&true&&!(decide (1<(c::a).length)&&decide ((c::a).head?=some 48)))=true:=by
    have h3:(c::a).length≤3:=by
     rcases Nat.lt_or_ge 3 (c::a).length with h | h
     ·exact (hv (.inl h)).elim
     ·exact h
    rw [decide_eq_true h3]
    by_cases h4:1<(c::a).length
    ·have:¬ c=48:=fun e=>hv (.inr ⟨h4,e⟩)
     simp [this]
    ·rw [decide_eq_false h4];rfl
   rw [if_neg hv,if_pos hval,if_pos (by omega)]
 rw [decide_eq_false h2] at k2
 rw [if_neg (by rw [← k2];decide),if_neg h2]
 by_cases h3:kd c=3
 ·rw [decide_eq_true h3] at k3
  have hc:¬ c=58:=fun e=>by rw [e] at k3;revert k3;decide
  rw [if_neg (fun e=>hc e.1),if_pos k3.symm,if_pos h3]
 rw [decide_eq_false h3] at k3
 rw [if_neg h3]
 have h5:kd c=5↔c=58:=by
  constructor
  ·intro e
   rw [decide_eq_true e] at k5
   exact of_decide_eq_true k5.symm
  ·intro e
   rw [decide_eq_true e] at k5
   exact of_decide_eq_true k5
 by_cases h6:c=58∧r.head?=some 61
 ·rw [if_pos h6,if_pos ⟨h5.2 h6.1,hh.1 h6.2⟩]
 ·rw [if_neg h6,if_neg (by rw [← k3];decide),if_neg (fun e=>h6 ⟨h5.1 e.1,hh.2 e.2⟩)]
end Lx
theorem lS (tx:List UInt8) (i:Nat) (hi:i<tx.length) (hs:tx.length≤10000) :
  NCall Tryz.prog 33 [.str tx,.int .i64 i] [] fun r _=>r = .agg [.int .i64 (Lx.tokO tx i).k,.int .i64 (Lx.tokO tx i).n,.str (Lx.tokO tx i).s,.int .i64 i]:=by
 unfold Lx.tokO
 rw [Lx.next_kd tx i hi]
 have ck:=da (tx.getD i 0)
 have cs:=iX tx i hi hs _ rfl
 have hL:=Lx.tw_wl Lx.isL tx i
 have hD:=Lx.tw_wl Lx.isD tx i
 have leL:=Lx.wl_le Lx.isL tx i (by omega)
 have leD:=Lx.wl_le Lx.isD tx i (by omega)
 have hdl:((tx.drop i).takeWhile Lx.isD).length≤10000:=by
  have:Lx.wl Lx.isD tx i=((tx.drop i).takeWhile Lx.isD).length:=rfl
  omega
 have cn:=j9 ((tx.drop i).takeWhile Lx.isD) hdl
 by_cases h1:Lx.kd (tx.getD i 0)=1
 ·rw [if_pos h1]
  rw [h1] at ck cs
  rw [Lx.kd_L] at cs
  generalize Lx.wl Lx.isL tx i=w at *
  generalize (tx.drop i).takeWhile Lx.isL=d at *
  have e1:(tx.drop i).take (i+w - i)=d:=by rw [show i+w - i=w by omega];exact hL
  refine aA Tryz.func33 rfl (by decide) ?_
  (repeat' (first|(with_reducible first|(refine hK _ _ ?_;clear hK K)|(refine hA ?_;clear hA hB A B)|(refine hB ?_;clear hA hB A B)|(refine hK _ ?_;clear hK K))|((first|((with_reducible refine gC ?_);(first|refine NCall.pureE (ck) ?_|refine NCall.pureE (cs) ?_))|((with_reducible refine gQ ?_);(first|refine NCallQ.pureEq (ck) ?_|refine NCallQ.pureEq (cs) ?_))|((with_reducible refine NN.eq (n:=i+w) ?side ?_);case side=>omega)|(with_reducible refine NS.eq (e1) ?_))<;>(conv=>whnf))|refine dB ?_|refine dQ ?_|((with_reducible refine gX ?_);refine z34 (by kernel_rfl) (by kernel_rfl) ?_)|(refine bQ ?_;intro K hK;conv=>whnf)|(refine bF ?_;intro A B hA hB;conv=>whnf)|((with_reducible first|refine NIf.dec (fun _=>?_) (fun _=>?_)|refine NIf.both (fun _=>?_) (fun _=>?_))<;>(conv=>whnf))|((intro _;skip)<;>(conv=>whnf))))
  all_goals rfl
 rw [if_neg h1]
 by_cases h2:Lx.kd (tx.getD i 0)=2
 ·rw [if_pos h2]
  rw [h2] at ck cs
  rw [Lx.kd_D] at cs
  generalize Lx.wl Lx.isD tx i=w at *
  generalize (tx.drop i).takeWhile Lx.isD=d at *
  generalize Lx.numD d=q at *
  have e1:(tx.drop i).take (i+w - i)=d:=by rw [show i+w - i=w by omega];exact hD
  refine aA Tryz.func33 rfl (by decide) ?_
  by_cases hq:0≤q
  ·rw [if_pos hq]
   (repeat' (first|(with_reducible first|(refine hK _ _ ?_;clear hK K)|(refine hA ?_;clear hA hB A B)|(refine hB ?_;clear hA hB A B)|(refine hK _ ?_;clear hK K))|((first|((with_reducible refine gC ?_);(first|refine NCall.pureE (ck) ?_|refine NCall.pureE (cs) ?_|refine NCall.pureE (cn) ?_))|((with_reducible refine gQ ?_);(first|refine NCallQ.pureEq (ck) ?_|refine NCallQ.pureEq (cs) ?_|refine NCallQ.pureEq (cn) ?_))|((with_reducible refine NN.eq (n:=i+w) ?side ?_);case side=>omega)|(with_reducible refine NS.eq (e1) ?_))<;>(conv=>whnf))|refine dB ?_|refine dQ ?_|((with_reducible refine gX ?_);refine z34 (by kernel_rfl) (by kernel_rfl) ?_)|(refine bQ ?_;intro K hK;conv=>whnf)|(refine bF ?_;intro A B hA hB;conv=>whnf)|((with_reducible first|refine NIf.dec (fun _=>?_) (fun _=>?_)|refine NIf.both (fun _=>?_) (fun _=>?_))<;>(conv=>whnf))|((intro _;skip)<;>(conv=>whnf))))
   all_goals rfl
  ·rw [if_neg hq]
   (repeat' (first|(with_reducible first|(refine hK _ _ ?_;clear hK K)|(refine hA ?_;clear hA hB A B)|(refine hB ?_;clear hA hB A B)|(refine hK _ ?_;clear hK K))|((first|((with_reducible refine gC ?_);(first|refine NCall.pureE (ck) ?_|refine NCall.pureE (cs) ?_|refine NCall.pureE (cn) ?_))|((with_reducible refine gQ ?_);(first|refine NCallQ.pureEq (ck) ?_|refine NCallQ.pureEq (cs) ?_|refine NCallQ.pureEq (cn) ?_))|((with_reducible refine NN.eq (n:=i+w) ?side ?_);case side=>omega)|(with_reducible refine NS.eq (e1) ?_))<;>(conv=>whnf))|refine dB ?_|refine dQ ?_|((with_reducible refine gX ?_);refine z34 (by kernel_rfl) (by kernel_rfl) ?_)|(refine bQ ?_;intro K hK;conv=>whnf)|(refine bF ?_;intro A B hA hB;conv=>whnf)|((with_reducible first|refine NIf.dec (fun _=>?_) (fun _=>?_)|refine NIf.both (fun _=>?_) (fun _=>?_))<;>(conv=>whnf))|((intro _;skip)<;>(conv=>whnf))))
   all_goals rfl
 rw [if_neg h2]
 clear cs
 by_cases h3:Lx.kd (tx.getD i 0)=3
 ·rw [if_pos h3]
  rw [h3] at ck
  have e1:(tx.drop i).take (i+1 - i)=[tx.getD i 0]:=by rw [show i+1 - i=1 by omega,Lx.drop_getD tx i hi];rfl
  refine aA Tryz.func33 rfl (by decide) ?_
  (repeat' (first|(with_reducible first|(refine hK _ _ ?_;clear hK K)|(refine hA ?_;clear hA hB A B)|(refine hB ?_;clear hA hB A B)|(refine hK _ ?_;clear hK K))|((first|((with_reducible refine gC ?_);refine NCall.pureE (ck) ?_)|((with_reducible refine gQ ?_);refine NCallQ.pureEq (ck) ?_)|((with_reducible refine NN.eq (n:=i+1) ?side ?_);case side=>omega)|(with_reducible refine NS.eq (e1) ?_))<;>(conv=>whnf))|refine dB ?_|refine dQ ?_|((with_reducible refine gX ?_);refine z34 (by kernel_rfl) (by kernel_rfl) ?_)|(refine bQ ?_;intro K hK;conv=>whnf)|(refine bF ?_;intro A B hA hB;conv=>whnf)|((with_reducible first|refine NIf.dec (fun _=>?_) (fun _=>?_)|refine NIf.both (fun _=>?_) (fun _=>?_))<;>(conv=>whnf))|((intro _;skip)<;>(conv=>whnf))))
  all_goals rfl
 rw [if_neg h3]
 refine aA Tryz.func33 rfl (by decide) ?_
 by_cases h5:Lx.kd (tx.getD i 0)=5
 ·have e2:((i:Int)+1).toNat=i+1:=by omega
  rw [h5] at ck
  by_cases h6:i+1<tx.length
  ·by_cases h7:(tx.getD (i+1) 0).toNat=61
   ·rw [if_pos ⟨h5,h6,h7⟩]
    rw [← e2] at h7
    repeat' first|((try intro K hK);(with_reducible refine gC ?_);refine cP ck ?_)|((try intro K hK);(with_reducible refine gQ ?_);refine NCallQ.pureEq ck ?_;conv=>whnf)|(refine sxZ ?_;try clear hK K)|refine sxW ?_ ?_<;>intro _|(intro K hK _;conv=>whnf)
    all_goals rfl
   ·rw [if_neg (fun e=>h7 e.2.2)]
    rw [← e2] at h7
    repeat' first|((try intro K hK);(with_reducible refine gC ?_);refine cP ck ?_)|((try intro K hK);(with_reducible refine gQ ?_);refine NCallQ.pureEq ck ?_;conv=>whnf)|(refine sxZ ?_;try clear hK K)|refine sxW ?_ ?_<;>intro _|(intro K hK _;conv=>whnf)
    all_goals rfl
  ·rw [if_neg (fun e=>h6 e.2.1)]
   repeat' first|((try intro K hK);(with_reducible refine gC ?_);refine cP ck ?_)|((try intro K hK);(with_reducible refine gQ ?_);refine NCallQ.pureEq ck ?_;conv=>whnf)|(refine sxZ ?_;try clear hK K)|refine sxW ?_ ?_<;>intro _|(intro K hK _;conv=>whnf)
   all_goals rfl
 ·rw [if_neg (fun e=>h5 e.1)]
  generalize Lx.kd (tx.getD i 0)=k at *
  repeat' first|((try intro K hK);(with_reducible refine gC ?_);refine cP ck ?_)|((first|intro A B hA hB|intro K hK|skip);first|((with_reducible refine NIf.yes ?s ?_);(case s=>simp ;done);conv=>whnf)|((with_reducible refine NIf.no ?s ?_);(case s=>simp ;done);conv=>whnf))|((try intro K hK);(with_reducible refine gQ ?_);refine NCallQ.pureEq ck ?_;conv=>whnf)|(refine sxZ ?_;(try clear hK K);try clear hA hB A B)|refine sxW ?_ ?_<;>intro _|(intro K hK _;conv=>whnf)
  all_goals rfl
namespace Lx
theorem skip_spc {c:UInt8} {r:List UInt8} (h:isSp c=true):skip (c::r)=skip r:=by
 have e3:(c::r).dropWhile isSp=r.dropWhile isSp:=List.dropWhile_cons_of_pos h
 cases hu:r.dropWhile isSp with
 | nil=>rw [skip_nil (e3.trans hu),skip_nil hu]
 | cons d q=>rw [skip_cons (e3.trans hu),skip_cons hu]
theorem sk_eq {tx:List UInt8} {i j:Nat} (h:skip (tx.drop i)=skip (tx.drop j)):sk tx i=sk tx j:=by unfold sk;rw [h]
theorem run_same {tx:List UInt8} {i j:Nat} (h:skip (tx.drop i)=skip (tx.drop j)) (hi:i≤j) (hj:j≤tx.length) (out:List T):run tx (tx.length - i+1) i out=run tx (tx.length - j+1) j out:=by
 rw [← run_more tx (tx.length - i+1) (tx.length - j+1) j out hj (by omega) (by omega)]
 rw [run,run,sk_eq h]
theorem run_sp {tx:List UInt8} {i:Nat} (hi:i<tx.length) (hk:kd (tx.getD i 0)=0) (out:List T):run tx (tx.length - i+1) i out=run tx (tx.length - (i+1)+1) (i+1) out:=by
 refine run_same ?_ (by omega) (by omega) out
 rw [drop_getD tx i hi]
 have:=(kd_is (tx.getD i 0)).1
 rw [decide_eq_true hk] at this
 exact skip_spc this.symm
theorem run_rem {tx:List UInt8} {i:Nat} (hi:i<tx.length) (hk:kd (tx.getD i 0)=4) (out:List T):i<i+wl notNl tx i∧i+wl notNl tx i≤tx.length∧run tx (tx.length - i+1) i out=run tx (tx.length - (i+wl notNl tx i)+1) (i+wl notNl tx i) out:=by
 have hle:=wl_le notNl tx i (by omega)
 have h4:=(kd_is (tx.getD i 0)).2.2.2.2.1
 rw [decide_eq_true hk] at h4
 have hc:tx.getD i 0=35:=of_decide_eq_true h4.symm
 have hd:=drop_getD tx i hi
 have hn:notNl (35:UInt8)=true:=by decide
 have hpos:0<wl notNl tx i:=by
  unfold wl
  rw [hd,hc,List.takeWhile_cons_of_pos hn]
  simp
 refine ⟨by omega,hle,run_same ?_ (by omega) hle out⟩
 rw [← drop_wl notNl tx i,hd,hc,List.dropWhile_cons_of_pos hn]
 have e:(35::tx.drop (i+1)).dropWhile isSp=35::tx.drop (i+1):=List.dropWhile_cons_of_neg (by decide)
 rw [skip_cons e,if_pos rfl]
theorem run_tok {tx:List UInt8} {i:Nat} (hi:i<tx.length) (h0:kd (tx.getD i 0)≠0) (h4:kd (tx.getD i 0)≠4) (out:List T):run tx (tx.length - i+1) i out=match nextB (tx.drop i) with
  | none=>.bad (i:Nat) 10
  | some (b,n)=>if out.length=500 then .bad (i:Nat) 6 else run tx (tx.length - (i+n)+1) (i+n) (out++[⟨b.k,b.n,b.s,(i:Nat)⟩]):=by
 have k0:=(kd_is (tx.getD i 0)).1
 have k4:=(kd_is (tx.getD i 0)).2.2.2.2.1
 rw [decide_eq_false h0] at k0
 rw [decide_eq_false h4] at k4
 have hs:skip (tx.drop i)=tx.drop i:=by
  rw [drop_getD tx i hi]
  exact skip_id k0.symm (of_decide_eq_false k4.symm)
 have hsk:sk tx i=i:=by
  unfold sk
  rw [hs,List.length_drop]
  omega
 rw [run,hsk,if_neg (by omega)]
 cases hn:nextB (tx.drop i) with
 | none=>rfl
 | some bn =>
  obtain ⟨b,n⟩:=bn
  have hp:=nextB_pos hn
  rw [List.length_drop] at hp
  dsimp only
  split
  ·rfl
  ·exact run_more tx _ _ _ _ (by omega) (by omega) (by omega)
def stepN (tx:List UInt8) (i:Nat):Nat:=if kd (tx.getD i 0)=3 then 1 else if kd (tx.getD i 0)=5 then 2 else wl (fun d=>decide (kd d=kd (tx.getD i 0))) tx i
theorem next_step {tx:List UInt8} {i:Nat} (hi:i<tx.length) {b:B} {n:Nat} (h:nextB (tx.drop i)=some (b,n)):n=stepN tx i∧b.k≠0:=by
 rw [next_kd tx i hi] at h
 unfold stepN
 by_cases h1:kd (tx.getD i 0)=1
 ·rw [if_pos h1] at h
  rw [h1,if_neg (by decide),if_neg (by decide),kd_L]
  injection h with h;injection h with h2 h3
  exact ⟨h3.symm,by rw [← h2];exact of_decide_eq_true rfl⟩
 rw [if_neg h1] at h
 by_cases h2:kd (tx.getD i 0)=2
 ·rw [if_pos h2] at h
  rw [h2,if_neg (by decide),if_neg (by decide),kd_D]
  split at h
  ·injection h with h;injection h with h2 h3
   exact ⟨h3.symm,by rw [← h2];exact of_decide_eq_true rfl⟩
  ·cases h
 rw [if_neg h2] at h
 by_cases h3:kd (tx.getD i 0)=3
 ·rw [if_pos h3] at h
  rw [if_pos h3]
  injection h with h;injection h with h2 h3
  exact ⟨h3.symm,by rw [← h2];exact of_decide_eq_true rfl⟩
 rw [if_neg h3] at h
 rw [if_neg h3]
 split at h
 ·rename_i h5
  rw [if_pos h5.1]
  injection h with h;injection h with h2 h3
  exact ⟨h3.symm,by rw [← h2];exact of_decide_eq_true rfl⟩
 ·cases h
end Lx
def qz (F:Heap) (q:Lx.O) (r:AV) (m:List Blk):Prop :=
 (∃ l v,q = .ok l∧MemFits m [hpB F,⟨addrOf v,l.flatMap Lx.tokC,.row v 59 4 l.length⟩]∧r.den=(AV.tup [.sl 1 v l.length,.int .i64 0,.int .i64 0]).den) ∨
 (∃ at_ e:Int,q = .bad at_ e∧MemFits m [hpB F]∧r = .tup [.raw (.slice none 0 0),.int .i64 at_,.int .i64 e])
theorem lX (F:Heap) (tx:List UInt8) (hs:tx.length≤4000):NCall Tryz.prog 14 [.str tx] [hpB F] (qz F (Lx.all tx)):=by
 refine aA Tryz.func14 rfl (by decide) ?_
 have h0:Lx.all tx=Lx.run tx (tx.length - 0+1) 0 []:=rfl
 generalize Lx.all tx=q at *
 repeat' first|(refine sxZ ?_;try clear hK K)|refine sxW ?_ ?_<;>intro _|(intro K hK _;conv=>whnf)
 refine aD (α:=Nat × List Lx.T × Value) (fun x=>x.1≤tx.length∧x.2.1.length≤500∧q=Lx.run tx (tx.length - x.1+1) x.1 x.2.1) (fun x=>[.k,.k,.d,.d,.d,.set (.sl 1 x.2.2 x.2.1.length),.set (.int .i64 x.1),.d,.d,.k,.k,.k,.d,.d,.d,.d,.d,.d,.d,.d,.d,.d,.d,.d,.d,.d,.d,.d,.d,.d,.d,.d,.d,.d,.d,.d,.d,.d,.d,.d,.d,.d,.d,.d,.d,.d,.d,.d,.d,.d,.d,.d,.d,.d,.d,.d,.d,.d,.d,.k,.k,.k,.k,.k,.k]) (fun x=>[.k,.set ⟨addrOf x.2.2,x.2.1.flatMap Lx.tokC,.row x.2.2 59 4 x.2.1.length⟩]) (fun x=>tx.length - x.1) (0,[],.slice none 0 0) ⟨Nat.zero_le _,Nat.zero_le _,h0⟩ ?_ (MemFits.nilRow _ _ _) ?_
 ·exact aC
 (intro ⟨i,out,v⟩ hst;intro K hK;(conv=>whnf);refine hK _ _ ?_;clear hK K)
 dsimp only at hst ⊢
 obtain ⟨hi,hfew,hq⟩:=hst
 have hol:=Lx.tokC_len out
 by_cases hlt:i<tx.length
 ·have ck:=da (tx.getD i 0)
  by_cases k0:Lx.kd (tx.getD i 0)=0
  ·rw [k0] at ck
   rw [Lx.run_sp hlt k0] at hq
   repeat' first|(intro K hK;(with_reducible refine gC ?_);refine cP ck ?_)|(refine sxZ ?_;try clear hK K)|refine sxW ?_ ?_<;>intro _|(intro K hK _;conv=>whnf)
   refine aB (i+1,out,v) ⟨hlt,hfew,hq⟩ (by dsimp only;omega) ?_ (MemFits.eq rfl)
   exact aC
  by_cases k4:Lx.kd (tx.getD i 0)=4
  ·obtain ⟨r1,r2,r3⟩:=Lx.run_rem hlt k4 out
   have cr:=j8 tx i (by omega) (by omega)
   rw [k4] at ck
   rw [r3] at hq
   generalize Lx.wl Lx.notNl tx i=w at *
   repeat' first|(intro K hK;(with_reducible refine gC ?_);first|refine cP ck ?_|refine cP cr ?_)|(refine sxZ ?_;try clear hK K)|refine sxW ?_ ?_<;>intro _|(intro K hK _;conv=>whnf)
   refine aB (i+w,out,v) ⟨r2,hfew,hq⟩ (by dsimp only;omega) ?_ (MemFits.eq rfl)
   exact aC
  rw [Lx.run_tok hlt k0 k4] at hq
  have ct:=lS tx i hlt (by omega)
  unfold Lx.tokO at ct
  have hstep:=@Lx.next_step tx i hlt
  cases hn:Lx.nextB (tx.drop i) with
  | none =>
   rw [hn] at hq ct
   dsimp only at hq ct
   generalize Lx.kd (tx.getD i 0)=k at *
   repeat' first|((try intro K hK);(with_reducible refine gC ?_);first|refine cP ck ?_|refine cP ct ?_)|((first|intro A B hA hB|intro K hK|skip);first|((with_reducible refine NIf.yes ?s ?_);(case s=>simp ;done);conv=>whnf)|((with_reducible refine NIf.no ?s ?_);(case s=>simp ;done);conv=>whnf))|(refine sxZ ?_;(try clear hK K);try clear hA hB A B)|refine sxW ?_ ?_<;>intro _|(intro K hK _;conv=>whnf)
   all_goals exact .inr ⟨_,_,hq,MemFits.pick [0] (by decide) rfl,rfl⟩
  | some bn =>
   obtain ⟨b,n⟩:=bn
   rw [hn] at hq ct
   dsimp only at hq ct
   obtain ⟨hn2,hb0⟩:=hstep hn
   have hp:=Lx.nextB_pos hn
   rw [List.length_drop] at hp
   have cs:=iX tx i hlt (by omega) _ rfl
   unfold Lx.stepN at hn2
   generalize Lx.wl (fun d=>decide (Lx.kd d=Lx.kd (tx.getD i 0))) tx i=w at *
   generalize Lx.kd (tx.getD i 0)=k at *
   by_cases hf:out.length=500
   ·rw [if_pos hf] at hq
    repeat' first|((try intro K hK);(with_reducible refine gC ?_);first|refine cP ck ?_|refine cP ct ?_)|((first|intro A B hA hB|intro K hK|skip);first|((with_reducible refine NIf.yes ?s ?_);(case s=>simp ;done);conv=>whnf)|((with_reducible refine NIf.no ?s ?_);(case s=>simp ;done);conv=>whnf))|(refine sxZ ?_;(try clear hK K);try clear hA hB A B)|refine sxW ?_ ?_<;>intro _|(intro K hK _;conv=>whnf)
    all_goals exact .inr ⟨_,_,hq,MemFits.pick [0] (by decide) rfl,rfl⟩
   rw [if_neg hf] at hq
   by_cases k3:k=3
   ·rw [if_pos k3] at hn2
    subst hn2
    repeat' first|((try intro K hK);(with_reducible refine gC ?_);first|refine cP ck ?_|refine cP ct ?_)|((first|intro A B hA hB|intro K hK|skip);first|((with_reducible refine NIf.yes ?s ?_);(case s=>simp ;done);conv=>whnf)|((with_reducible refine NIf.no ?s ?_);(case s=>simp ;done);conv=>whnf))|(refine sxZ ?_;(try clear hK K);try clear hA hB A B)|refine sxW ?_ ?_<;>intro _|(intro K hK _;conv=>whnf)
    rename_i v2
    refine aB (i+1,out++[⟨b.k,b.n,b.s,i⟩],v2) ⟨by dsimp only;omega,by dsimp only;simp;omega,hq⟩ (by dsimp only;omega) ?_ (MemFits.trans (MemFits.pre 2 rfl) (MemFits.eq ?_))
    ·exact aC
    ·rw [List.flatMap_append,List.length_append]
     rfl
   by_cases k5:k=5
   ·rw [if_neg k3,if_pos k5] at hn2
    subst hn2
    repeat' first|((try intro K hK);(with_reducible refine gC ?_);first|refine cP ck ?_|refine cP ct ?_)|((first|intro A B hA hB|intro K hK|skip);first|((with_reducible refine NIf.yes ?s ?_);(case s=>simp ;done);conv=>whnf)|((with_reducible refine NIf.no ?s ?_);(case s=>simp ;done);conv=>whnf))|(refine sxZ ?_;(try clear hK K);try clear hA hB A B)|refine sxW ?_ ?_<;>intro _|(intro K hK _;conv=>whnf)
    rename_i v2
    refine aB (i+2,out++[⟨b.k,b.n,b.s,i⟩],v2) ⟨by dsimp only;omega,by dsimp only;simp;omega,hq⟩ (by dsimp only;omega) ?_ (MemFits.trans (MemFits.pre 2 rfl) (MemFits.eq ?_))
    ·exact aC
    ·rw [List.flatMap_append,List.length_append]
     rfl
   ·rw [if_neg k3,if_neg k5] at hn2
    subst hn2
    repeat' first|((try intro K hK);(with_reducible refine gC ?_);first|refine cP ck ?_|refine cP ct ?_|refine cP cs ?_)|((first|intro A B hA hB|intro K hK|skip);first|((with_reducible refine NIf.yes ?s ?_);(case s=>simp ;done);conv=>whnf)|((with_reducible refine NIf.no ?s ?_);(case s=>simp ;done);conv=>whnf))|(refine sxZ ?_;(try clear hK K);try clear hA hB A B)|refine sxW ?_ ?_<;>intro _|(intro K hK _;conv=>whnf)
    rename_i v2
    refine aB (i+n,out++[⟨b.k,b.n,b.s,i⟩],v2) ⟨by dsimp only;omega,by dsimp only;simp;omega,hq⟩ (by dsimp only;omega) ?_ (MemFits.trans (MemFits.pre 2 rfl) (MemFits.eq ?_))
    ·exact aC
    ·rw [List.flatMap_append,List.length_append]
     rfl
 ·obtain rfl:i=tx.length:=by omega
  have hsk:Lx.sk tx tx.length=tx.length:=by
   have:=Lx.drop_sk tx tx.length (Nat.le_refl _)
   omega
  rw [Lx.run,hsk,if_pos rfl] at hq
  repeat' first|(refine sxZ ?_;try clear hK K)|refine sxW ?_ ?_<;>intro _|(intro K hK _;conv=>whnf)
  rename_i v2
  all_goals
   refine .inl ⟨_,v2,hq,MemFits.pick [0,1] (by decide) ?_,?_⟩
   ·rw [List.flatMap_append,List.length_append]
    rfl
   ·simp only [AV.den,denL,aw,List.length_append,List.length_cons,List.length_nil]
theorem oi (F:Heap) (tx:List UInt8) (hs:tx.length≤4000):NCall Tryz.prog 14 [.str tx] [hpB F] fun r m =>
  (∃ l F' v,Lx.all tx = .ok l∧F.le F'∧m=[hpB F']∧r = .tup [.hs v l.length,.int .i64 0,.int .i64 0]∧aH F' 4 (fun x vs=>vs=Lx.tokV x) v l) ∨
  (∃ at_ e:Int,Lx.all tx = .bad at_ e∧m=[hpB F]∧r = .tup [.hs (.slice none 0 0) 0,.int .i64 at_,.int .i64 e]):=by
 refine Go.Sx.NCall.know (lX F tx hs) fun r m' h ⟨w,hw⟩=>?_
 rcases h with ⟨l,v,hq,hm,hr⟩ | ⟨at_,e,hq,hm,hr⟩
 ·obtain ⟨hok,_,hsl⟩:=(hm w hw).1.row (List.mem_cons_of_mem _ (List.mem_singleton.2 rfl))
  refine ⟨.tup [.hs v l.length,.int .i64 0,.int .i64 0],_,?_,hm.trans (MemFits.freeze (m:=[])),.inl ⟨l,_,v,hq,addF.old,rfl,rfl,aJ hok (Lx.tokC_den _) (fun x _=>rfl)⟩⟩
  rw [hr];rfl
 ·exact ⟨.tup [.hs (.slice none 0 0) 0,.int .i64 at_,.int .i64 e],_,by rw [hr];rfl,hm,.inr ⟨at_,e,hq,rfl,rfl⟩⟩
namespace Ps
open Lx (B isSp isL isD isS notNl nextB skip toks)
end Ps
namespace Ps
open Lx (B)
def E:B:=⟨4,0,[]⟩
section
variable (L:List B) (hL:∀ b∈L,b.k≠4)
def la:List B:=L++[E]
def lb:List B:=S wOpen::(L++[S wShut])++[E]
theorem la_len:(la L).length=L.length+1:=by simp [la]
theorem lb_len:(lb L).length=L.length+3:=by simp [lb]
theorem tk_lt {i:Nat} (h:i<L.length):tk (la L) i=L[i]∧tk (lb L) (i+1)=L[i]:=by
 unfold tk la lb
 constructor
 ·rw [List.getElem?_append_left h,List.getElem?_eq_getElem h];rfl
 ·rw [List.cons_append,List.getElem?_cons_succ,List.append_assoc,List.getElem?_append_left h,List.getElem?_eq_getElem h];rfl
theorem tk_ge {i:Nat} (h:L.length≤i):tk (la L) i=E:=by
 unfold tk la
 rw [List.getElem?_append_right h]
 cases hk:i - L.length with
 | zero=>rfl
 | succ k=>simp [E]
theorem tk_shut:tk (lb L) (L.length+1)=S wShut:=by
 unfold tk lb
 rw [List.cons_append,List.getElem?_cons_succ,List.append_assoc,List.getElem?_append_right (Nat.le_refl _),Nat.sub_self]
 rfl
theorem tk_gt {i:Nat} (h:L.length<i):tk (lb L) (i+1)=E:=by
 unfold tk lb
 rw [List.cons_append,List.getElem?_cons_succ,List.append_assoc,List.getElem?_append_right (by omega)]
 obtain ⟨k,hk⟩:∃ k,i - L.length=k+1:=⟨i - L.length - 1,by omega⟩
 rw [hk]
 cases k with
 | zero=>rfl
 | succ k=>simp [E]
theorem is_E {l:List B} {i:Nat} (h:tk l i=E) (w:List UInt8):is l i w=false:=by
 unfold is
 rw [h]
 rfl
theorem is_lt {i:Nat} {w:List UInt8} (h:is (la L) i w=true):i<L.length:=by
 rcases Nat.lt_or_ge i L.length with h1 | h1
 ·exact h1
 ·rw [is_E (tk_ge L h1)] at h;cases h
theorem is_same (i:Nat) {w:List UInt8} (hw:w≠wShut):is (lb L) (i+1) w=is (la L) i w:=by
 rcases Nat.lt_trichotomy i L.length with h | rfl | h
 ·unfold is
  rw [(tk_lt L h).1,(tk_lt L h).2]
 ·rw [is_E (tk_ge L (Nat.le_refl _))]
  unfold is
  rw [tk_shut]
  have:decide ((S wShut).s=w)=false:=decide_eq_false fun e=>hw e.symm
  rw [this,Bool.and_false]
 ·rw [is_E (tk_ge L (by omega)),is_E (tk_gt L h)]
theorem is_shut {i:Nat} (h:is (la L) i wShut=true):is (lb L) (i+1) wShut=true:=by
 have hi:=is_lt L h
 unfold is at h ⊢
 rw [(tk_lt L hi).1] at h
 rw [(tk_lt L hi).2]
 exact h
theorem num_lt {i:Nat} (h:(tk (la L) i).k=2):i<L.length∧tk (lb L) (i+1)=tk (la L) i:=by
 rcases Nat.lt_or_ge i L.length with h1 | h1
 ·exact ⟨h1,by rw [(tk_lt L h1).1,(tk_lt L h1).2]⟩
 ·rw [tk_ge L h1] at h;cases h
theorem field_eq (i many:Nat):field (lb L) (i+1) many=field (la L) i many:=by
 unfold field
 rcases Nat.lt_trichotomy i L.length with h | rfl | h
 ·rw [(tk_lt L h).1,(tk_lt L h).2]
 ·rw [tk_ge L (Nat.le_refl _),tk_shut];rfl
 ·rw [tk_ge L (by omega),tk_gt L h]
def Sim {α:Type} (one one':Nat→R α):Prop:=∀ i x j,i≤L.length→one i = .ok x j→j≤L.length∧one' (i+1) = .ok x (j+1)
theorem more_sim {α:Type} {one one':Nat→R α} (h:Sim L one one') {b:List UInt8} (hb:b≠wShut):∀ (n:Nat) (acc:List α) (i:Nat) (xs:List α) (j:Nat),i≤L.length→more (la L) b one n acc i = .ok xs j→∀ n',n≤n'→j≤L.length∧more (lb L) b one' n' acc (i+1) = .ok xs (j+1)
 | 0,acc,i,xs,j,hi,he,n',_=>by rw [more] at he;cases he
 | n+1,acc,i,xs,j,hi,he,0,hn=>by omega
 | n+1,acc,i,xs,j,hi,he,n'+1,hn=>by
  rw [more] at he ⊢
  rw [is_same L i hb]
  by_cases hw:is (la L) i b=true
  ·rw [if_pos hw] at he ⊢
   cases ho:one (i+1) with
   | bad k=>rw [ho] at he;cases he
   | ok x k =>
    rw [ho] at he
    obtain ⟨h1,h2⟩:=h (i+1) x k (is_lt L hw) ho
    rw [h2]
    exact more_sim h hb n _ k xs j h1 he n' (by omega)
  ·rw [if_neg hw] at he ⊢
   cases he
   exact ⟨hi,rfl⟩
theorem chain_sim {α:Type} {one one':Nat→R α} (h:Sim L one one') {b:List UInt8} (hb:b≠wShut):Sim L (chain (la L) b one) (chain (lb L) b one'):=by
 intro i xs j hi he
 unfold chain at he ⊢
 cases ho:one i with
 | bad k=>rw [ho] at he;cases he
 | ok x k =>
  rw [ho] at he
  obtain ⟨h1,h2⟩:=h i x k hi ho
  rw [h2]
  exact more_sim L h hb _ _ k xs j h1 he _ (by rw [la_len,lb_len];omega)
theorem wrap_sim {α:Type} {f:List α→α} {one one':Nat→R (List α)} (h:Sim L one one'):Sim L (fun i=>wrap f (one i)) (fun i=>wrap f (one' i)):=by
 intro i x j hi he
 dsimp only at he ⊢
 cases ho:one i with
 | bad k=>rw [ho] at he;cases he
 | ok xs k =>
  rw [ho] at he
  obtain ⟨h1,h2⟩:=h i xs k hi ho
  rw [h2]
  rcases xs with _ | ⟨x0,_ | ⟨x1,xs⟩⟩<;>(cases he;exact ⟨h1,rfl⟩)
theorem shut_sim {α:Type} {one one':Nat→R α} (h:Sim L one one') {i:Nat} {x:α} {j:Nat} (hi:i≤L.length) (he:shut (la L) (one i) = .ok x j):j≤L.length∧shut (lb L) (one' (i+1)) = .ok x (j+1):=by
 cases ho:one i with
 | bad k=>rw [ho] at he;cases he
 | ok y k =>
  rw [ho] at he
  obtain ⟨h1,h2⟩:=h i y k hi ho
  rw [h2]
  unfold shut at he ⊢
  dsimp only at he ⊢
  by_cases hw:is (la L) k wShut=true
  ·rw [if_pos hw] at he
   rw [if_pos (is_shut L hw)]
   cases he
   exact ⟨is_lt L hw,rfl⟩
  ·rw [if_neg hw] at he;cases he
theorem assign_sim {many:Nat} {sign:List UInt8} (hs:sign≠wShut) {i:Nat} {x:Int × Int} {j:Nat} (he:assign (la L) many sign i = .ok x j):j≤L.length∧assign (lb L) many sign (i+1) = .ok x (j+1):=by
 unfold assign at he ⊢
 rw [field_eq]
 cases hf:field (la L) i many with
 | none=>rw [hf] at he;cases he
 | some f =>
  rw [hf] at he
  dsimp only at he ⊢
  rw [is_same L (i+1) hs]
  by_cases hw:is (la L) (i+1) sign=true
  ·rw [if_pos hw] at he ⊢
   by_cases hk:(tk (la L) (i+2)).k=2
   ·rw [if_pos hk] at he
    obtain ⟨h1,h2⟩:=num_lt L hk
    rw [show i+1+2=i+2+1 from rfl,h2,if_pos hk]
    cases he
    exact ⟨h1,rfl⟩
   ·rw [if_neg hk] at he;cases he
  ·rw [if_neg hw] at he;cases he
theorem cond_sim {one one':Nat→R Pd.T} (h:Sim L one one'):Sim L (cond (la L) one) (cond (lb L) one') :=
 wrap_sim L (chain_sim L (wrap_sim L (chain_sim L h (by decide))) (by decide))
theorem rows_sim {one one':Nat→R Po.T} (h:Sim L one one'):Sim L (rows (la L) one) (rows (lb L) one') :=
 wrap_sim L (chain_sim L (wrap_sim L (chain_sim L h (by decide))) (by decide))
theorem part_sim:∀ n n':Nat,n≤n'→Sim L (part (la L) n) (part (lb L) n')
 | 0,n',_=>fun i x j hi he=>by rw [part] at he;cases he
 | n+1,0,h=>by omega
 | n+1,n'+1,h=>fun i x j hi he=>by
  have ih:=part_sim n n' (by omega)
  rw [part] at he ⊢
  rw [is_same L i (by decide),is_same L i (by decide),is_same L i (by decide),is_same L i (by decide)]
  by_cases h1:is (la L) i wTrue=true
  ·rw [if_pos h1] at he ⊢
   cases he
   exact ⟨is_lt L h1,rfl⟩
  rw [if_neg h1] at he ⊢
  by_cases h2:is (la L) i wFalse=true
  ·rw [if_pos h2] at he ⊢
   cases he
   exact ⟨is_lt L h2,rfl⟩
  rw [if_neg h2] at he ⊢
  by_cases h3:is (la L) i wNot=true
  ·rw [if_pos h3] at he ⊢
   cases ho:part (la L) n (i+1) with
   | bad k=>rw [ho] at he;cases he
   | ok y k =>
    rw [ho] at he
    obtain ⟨g1,g2⟩:=ih (i+1) y k (is_lt L h3) ho
    rw [g2]
    cases he
    exact ⟨g1,rfl⟩
  rw [if_neg h3] at he ⊢
  by_cases h4:is (la L) i wOpen=true
  ·rw [if_pos h4] at he ⊢
   exact shut_sim L (cond_sim L ih) (is_lt L h4) he
  rw [if_neg h4] at he ⊢
  cases ho:assign (la L) 6 wEq i with
  | bad k=>rw [ho] at he;cases he
  | ok y k =>
   obtain ⟨f,v⟩:=y
   rw [ho] at he
   obtain ⟨g1,g2⟩:=assign_sim L (by decide) ho
   rw [g2]
   cases he
   exact ⟨g1,rfl⟩
theorem choice_sim {cnd cnd':Nat→R Pd.T} (hc:Sim L cnd cnd') {step step':Nat→R Po.T} (hs:Sim L step step') {i:Nat} {x:Po.T} {j:Nat} (hi:i≤L.length) (he:choice (la L) cnd step i = .ok x j):j≤L.length∧choice (lb L) cnd' step' (i+1) = .ok x (j+1):=by
 unfold choice at he ⊢
 cases ho:cnd i with
 | bad k=>rw [ho] at he;cases he
 | ok c k =>
  rw [ho] at he
  obtain ⟨g1,g2⟩:=hc i c k hi ho
  rw [g2]
  dsimp only at he ⊢
  rw [is_same L k (by decide)]
  by_cases h1:is (la L) k wThen=true
  ·rw [if_pos h1] at he ⊢
   cases ha:step (k+1) with
   | bad q=>rw [ha] at he;cases he
   | ok a q =>
    rw [ha] at he
    obtain ⟨g3,g4⟩:=hs (k+1) a q (is_lt L h1) ha
    rw [g4]
    dsimp only at he ⊢
    rw [is_same L q (by decide)]
    by_cases h2:is (la L) q wElse=true
    ·rw [if_pos h2] at he ⊢
     cases hb:step (q+1) with
     | bad r=>rw [hb] at he;cases he
     | ok b r =>
      rw [hb] at he
      obtain ⟨g5,g6⟩:=hs (q+1) b r (is_lt L h2) hb
      rw [g6]
      cases he
      exact ⟨g5,rfl⟩
    ·rw [if_neg h2] at he;cases he
  ·rw [if_neg h1] at he;cases he
theorem step_sim:∀ n n':Nat,n≤n'→Sim L (step (la L) n) (step (lb L) n')
 | 0,n',_=>fun i x j hi he=>by rw [step] at he;cases he
 | n+1,0,h=>by omega
 | n+1,n'+1,h=>fun i x j hi he=>by
  have ih:=step_sim n n' (by omega)
  have ihp:=cond_sim L (part_sim L (la L).length (lb L).length (by rw [la_len,lb_len];omega))
  rw [step] at he ⊢
  rw [is_same L i (by decide),is_same L i (by decide),is_same L i (by decide),is_same L i (by decide),is_same L i (by decide)]
  by_cases h1:is (la L) i wDrop=true
  ·rw [if_pos h1] at he ⊢
   cases he
   exact ⟨is_lt L h1,rfl⟩
  rw [if_neg h1] at he ⊢
  by_cases h2:is (la L) i wId=true
  ·rw [if_pos h2] at he ⊢
   cases he
   exact ⟨is_lt L h2,rfl⟩
  rw [if_neg h2] at he ⊢
  by_cases h3:is (la L) i wWhen=true
  ·rw [if_pos h3] at he ⊢
   cases ho:cond (la L) (part (la L) (la L).length) (i+1) with
   | bad k=>rw [ho] at he;cases he
   | ok y k =>
    rw [ho] at he
    obtain ⟨g1,g2⟩:=ihp (i+1) y k (is_lt L h3) ho
    rw [g2]
    cases he
    exact ⟨g1,rfl⟩
  rw [if_neg h3] at he ⊢
  by_cases h5:is (la L) i wIf=true
  ·rw [if_pos h5] at he ⊢
   exact choice_sim L ihp ih (is_lt L h5) he
  rw [if_neg h5] at he ⊢
  by_cases h4:is (la L) i wOpen=true
  ·rw [if_pos h4] at he ⊢
   exact shut_sim L (rows_sim L ih) (is_lt L h4) he
  rw [if_neg h4] at he ⊢
  cases ho:assign (la L) 5 wSet i with
  | bad k=>rw [ho] at he;cases he
  | ok y k =>
   obtain ⟨f,v⟩:=y
   rw [ho] at he
   obtain ⟨g1,g2⟩:=assign_sim L (by decide) ho
   rw [g2]
   cases he
   exact ⟨g1,rfl⟩
include hL
end
end Ps
end Go.Proofs.YtmehinfgdcmmjaaGreat
