import Derived.Test.YtmehinfgdcmmjaaGreatJ6
namespace Go.Proofs.YtmehinfgdcmmjaaGreat
open Go.Sx
set_option maxRecDepth 20000
set_option linter.unusedSimpArgs false
set_option linter.unusedVariables false
theorem iy:∀ u:Nat,u<10→([48,49,50,51,52,53,54,55,56,57].drop u).take (u+1 - u)=[UInt8.ofNat (48+u)]:=by decide +kernel
theorem jW:∀ u:Nat,u≤9223372036854775807→NCall Tryz.prog 94 [.int .i64 u] [] fun r _=>r = .str (Lib.decDigits u):=by
 intro u
 induction u using Nat.strongRecOn with
 | _ u ih =>
  intro hu
  refine aA Tryz.func94 rfl (by decide) ?_
  by_cases h:u<10
  ·have e:=iy u h
   rw [← Lib.decDigits_one h] at e
   (repeat' (first|(with_reducible first|(refine hK _ _ ?_;clear hK K)|(refine hA ?_;clear hA hB A B)|(refine hB ?_;clear hA hB A B)|(refine hK _ ?_;clear hK K))|((first|((with_reducible refine NN.eq (n:=u+1) ?side ?_);case side=>omega)|(with_reducible refine NS.eq (e) ?_))<;>(conv=>whnf))|refine dB ?_|refine dQ ?_|((with_reducible refine gX ?_);refine z34 (by kernel_rfl) (by kernel_rfl) ?_)|(refine bQ ?_;intro K hK;conv=>whnf)|(refine bF ?_;intro A B hA hB;conv=>whnf)|((with_reducible first|refine NIf.dec (fun _=>?_) (fun _=>?_)|refine NIf.both (fun _=>?_) (fun _=>?_))<;>(conv=>whnf))|((intro _;skip)<;>(conv=>whnf))))
   rfl
  ·have h1:=ih (u / 10) (by omega) (by omega)
   have e1:IntKind.i64.wrap ((u:Int) / 10)=((u / 10:Nat):Int):=by rw [wrap_i64 (by omega) (by omega)];omega
   have e2:(u:Int).tmod 10=((u % 10:Nat):Int):=by rw [Int.tmod_eq_emod_of_nonneg (by omega)];omega
   have hd:Lib.decDigits u=Lib.decDigits (u / 10)++[UInt8.ofNat (48+u % 10)]:=by rw [Lib.decDigits,dif_neg h]
   have hl:=Lib.itoa_length_le ((u / 10:Nat):Int) (by omega) (by omega)
   rw [Lib.itoa,if_neg (by omega),Int.toNat_natCast] at hl
   have hm:u % 10<10:=Nat.mod_lt _ (by decide)
   rw [hd]
   generalize Lib.decDigits (u / 10)=ds at *
   generalize u % 10=d at *
   have e:=iy d hm
   generalize u / 10=q at *
   (repeat' (first|(with_reducible first|(refine hK _ _ ?_;clear hK K)|(refine hA ?_;clear hA hB A B)|(refine hB ?_;clear hA hB A B)|(refine hK _ ?_;clear hK K))|((first|((with_reducible refine gQ ?_);refine NCallQ.pureEq (h1) ?_)|(with_reducible first|refine NV.eq (e1) ?_|refine NV.eq (e2) ?_)|((with_reducible refine NN.eq (n:=d+1) ?side ?_);case side=>omega)|(with_reducible refine NS.eq (e) ?_))<;>(conv=>whnf))|refine dB ?_|refine dQ ?_|((with_reducible refine gX ?_);refine z34 (by kernel_rfl) (by kernel_rfl) ?_)|(refine bQ ?_;intro K hK;conv=>whnf)|(refine bF ?_;intro A B hA hB;conv=>whnf)|((with_reducible first|refine NIf.dec (fun _=>?_) (fun _=>?_)|refine NIf.both (fun _=>?_) (fun _=>?_))<;>(conv=>whnf))|((intro _;skip)<;>(conv=>whnf))))
   rfl
theorem pU (n:Int) (hn : -9223372036854775808≤n∧n≤9223372036854775807):NCall Tryz.prog 94 [.int .i64 n] [] fun r _=>r = .str (Lib.itoa n):=by
 unfold Lib.itoa
 by_cases h0:n<0
 ·rw [if_pos h0]
  obtain ⟨u,rfl⟩:∃ u:Nat,n = -(u:Int):=⟨n.natAbs,by omega⟩
  rw [show (-(u:Int)).natAbs=u by omega]
  refine aA Tryz.func94 rfl (by decide) ?_
  by_cases h:u<10
  ·have h1:=jW u (by omega)
   have e1:IntKind.i64.wrap (0 - -(u:Int))=(u:Int):=by rw [wrap_i64 (by omega) (by omega)];omega
   have hl:(Lib.decDigits u).length=1:=by rw [Lib.decDigits_one h];rfl
   generalize Lib.decDigits u=ds at *
   (repeat' (first|(with_reducible first|(refine hK _ _ ?_;clear hK K)|(refine hA ?_;clear hA hB A B)|(refine hB ?_;clear hA hB A B)|(refine hK _ ?_;clear hK K))|((first|((with_reducible refine gC ?_);refine NCall.pureE (h1) ?_)|(with_reducible refine NV.eq (e1) ?_))<;>(conv=>whnf))|refine dB ?_|refine dQ ?_|((with_reducible refine gX ?_);refine z34 (by kernel_rfl) (by kernel_rfl) ?_)|(refine bQ ?_;intro K hK;conv=>whnf)|(refine bF ?_;intro A B hA hB;conv=>whnf)|((with_reducible first|refine NIf.dec (fun _=>?_) (fun _=>?_)|refine NIf.both (fun _=>?_) (fun _=>?_))<;>(conv=>whnf))|((intro _;skip)<;>(conv=>whnf))))
   rfl
  ·have h1:=jW (u / 10) (by omega)
   have h2:=jW (u % 10) (by omega)
   have e0:(-(u:Int)).tdiv 10 = -((u / 10:Nat):Int):=by rw [Int.neg_tdiv,Int.tdiv_eq_ediv_of_nonneg (by omega)];omega
   have e1:IntKind.i64.wrap ((-(u:Int)).tdiv 10) = -((u / 10:Nat):Int):=by rw [e0,wrap_i64 (by omega) (by omega)]
   have e2:(-(u:Int)).tmod 10 = -((u % 10:Nat):Int):=by rw [Int.neg_tmod,Int.tmod_eq_emod_of_nonneg (by omega)];omega
   have hd:Lib.decDigits u=Lib.decDigits (u / 10)++[UInt8.ofNat (48+u % 10)]:=by rw [Lib.decDigits,dif_neg h]
   have hm:u % 10<10:=Nat.mod_lt _ (by decide)
   have hl:=Lib.itoa_length_le ((u / 10:Nat):Int) (by omega) (by omega)
   rw [Lib.itoa,if_neg (by omega),Int.toNat_natCast] at hl
   rw [Lib.decDigits_one hm] at h2
   rw [hd]
   generalize Lib.decDigits (u / 10)=ds at *
   have e3:IntKind.i64.wrap (0 - -((u / 10:Nat):Int))=((u / 10:Nat):Int):=by rw [wrap_i64 (by omega) (by omega)];omega
   have e4:IntKind.i64.wrap (0 - -((u % 10:Nat):Int))=((u % 10:Nat):Int):=by rw [wrap_i64 (by omega) (by omega)];omega
   generalize u % 10=d at *
   generalize u / 10=q at *
   (repeat' (first|(with_reducible first|(refine hK _ _ ?_;clear hK K)|(refine hA ?_;clear hA hB A B)|(refine hB ?_;clear hA hB A B)|(refine hK _ ?_;clear hK K))|((first|((with_reducible refine gC ?_);(first|refine NCall.pureE (h1) ?_|refine NCall.pureE (h2) ?_))|(with_reducible first|refine NV.eq (e1) ?_|refine NV.eq (e2) ?_|refine NV.eq (e3) ?_|refine NV.eq (e4) ?_))<;>(conv=>whnf))|refine dB ?_|refine dQ ?_|((with_reducible refine gX ?_);refine z34 (by kernel_rfl) (by kernel_rfl) ?_)|(refine bQ ?_;intro K hK;conv=>whnf)|(refine bF ?_;intro A B hA hB;conv=>whnf)|((with_reducible first|refine NIf.dec (fun _=>?_) (fun _=>?_)|refine NIf.both (fun _=>?_) (fun _=>?_))<;>(conv=>whnf))|((intro _;skip)<;>(conv=>whnf))))
   rfl
 ·rw [if_neg h0]
  obtain ⟨u,rfl⟩:=Int.eq_ofNat_of_zero_le (show 0≤n by omega)
  exact jW u (by omega)
namespace Ac
structure A where
 k:Int
 f:Int
 v:Int
deriving DecidableEq
def A.av (x:A):List AV:=[.int .i64 x.k,.int .i64 x.f,.int .i64 x.v]
def actV (x:A):List Value:=[.int .i64 x.k,.int .i64 x.f,.int .i64 x.v]
def A.in64 (x:A):Prop:=Mt.i64 x.k∧Mt.i64 x.f∧Mt.i64 x.v
def ok1 (ports:Int) (x:A):Prop:=(x.k=1∧0≤x.f∧x.f≤3∧0≤x.v∧x.v≤Mt.top x.f)∨(x.k=2∧x.f=0∧0≤x.v∧x.v<ports)∨(x.k=3∧x.f=0∧x.v=0)
instance (ports:Int) (x:A):Decidable (ok1 ports x):=by unfold ok1;infer_instance
def okL (ports:Int) (l:List A):Prop:=l.length≤16∧∀ x∈l,ok1 ports x
instance (ports:Int) (l:List A):Decidable (okL ports l):=by unfold okL;infer_instance
end Ac
theorem oe (x:Ac.A) (ports:Int):NCall Tryz.prog 93 [.agg x.av,.int .i64 ports] [] fun r _=>r = .bool (decide (Ac.ok1 ports x)):=by
 refine aA Tryz.func93 rfl (by decide) ?_
 have hq:Ac.ok1 ports x↔(x.k=1∧0≤x.f∧x.f≤3∧0≤x.v∧x.v≤Mt.top x.f)∨(x.k=2∧x.f=0∧0≤x.v∧x.v<ports)∨(x.k=3∧x.f=0∧x.v=0):=Iff.rfl
 obtain ⟨k,f,v⟩:=x
 simp only [Ac.A.av] at *
 by_cases hf:0≤f∧f≤3
 ·have ht:=eh f hf
  generalize Mt.top f=tp at *
  repeat' first|((try intro K hK);(with_reducible refine gQ ?_);refine NCallQ.pureEq ht ?_;conv=>whnf)|(refine sxZ ?_;try clear hK K)|refine sxW ?_ ?_<;>intro _|(intro K hK _;conv=>whnf)
  all_goals first
   | exact cZ (fun h=>by have:=hq.1 h;omega)
   | exact boolT (hq.2 (by omega))
   | exact dl (by rw [hq];simp only [Bool.and_eq_true,decide_eq_true_eq,and_true];omega)
 ·generalize Mt.top f=tp at *
  repeat' first|(refine sxZ ?_;try clear hK K)|refine sxW ?_ ?_<;>intro _|(intro K hK _;conv=>whnf)
  all_goals first
   | exact cZ (fun h=>by have:=hq.1 h;omega)
   | exact boolT (hq.2 (by omega))
   | exact dl (by rw [hq];simp only [Bool.and_eq_true,decide_eq_true_eq,and_true];omega)
   | (exfalso;omega)
def eD (a:Addr) (ports:Int):Blk:=⟨a,[.int .i64 ports],.var 3⟩
theorem oF (x:Ac.A) (ports:Int) (a:Addr):NCall Tryz.prog 92 [.agg x.av,.ptr 0 a 0] [eD a ports] fun r m=>r = .bool (!decide (Ac.ok1 ports x))∧m=[eD a ports]:=by
 refine NCall.fits (K:=fun r m=>r = .bool (!decide (Ac.ok1 ports x))∧MemFits m [eD a ports]) ?_ fun r m' h=>⟨r,_,rfl,h.2,h.1,rfl⟩
 refine aA Tryz.func92 rfl (by decide) ?_
 have h:=oe x ports
 obtain ⟨k,f,v⟩:=x
 simp only [Ac.A.av] at *
 unfold eD
 repeat' first|(intro K hK;(with_reducible refine gC ?_);refine cP h ?_)|(refine sxZ ?_;try clear hK K)|refine sxW ?_ ?_<;>intro _|(intro K hK _;conv=>whnf)
 all_goals exact ⟨rfl,MemFits.drop [_] [_]⟩
set_option maxHeartbeats 1000000 in
theorem pE (F:Heap) (v:Value) (l:List Ac.A) (hv:aH F 3 (fun x vs=>vs=Ac.actV x) v l) (hn:l.length≤9223372036854775807) (ports:Int) (a:Addr) :
  NCall Tryz.prog 116 [.hs v l.length,.fn 92 [] [.ptr 1 a 0]] [hpB F,eD a ports] fun r m=>(∃ j:Int,r = .int .i64 j∧(0≤j↔∃ x∈l,¬ Ac.ok1 ports x))∧m=[hpB F,eD a ports]:=by
 have hok:=hv.ok
 refine aA Tryz.func116 rfl (by decide) ?_
 repeat' first|(refine sxZ ?_;try clear hK K)|refine sxW ?_ ?_<;>intro _|(intro K hK _;conv=>whnf)
 refine aD (α:=Nat) (fun k=>k≤l.length∧∀ j x,j<k→l[j]?=some x→Ac.ok1 ports x) (fun k=>[.k,.k,.k,.k,.d,.d,.k,.k,.set (.int .i64 k),.d,.d,.d,.d,.d,.d,.d,.d,.d,.d]) (fun _=>[]) (fun k=>l.length - k) 0 ⟨Nat.zero_le _,fun j x hj=>absurd hj (Nat.not_lt_zero _)⟩ ?_ (MemFits.eq rfl) ?_
 ·exact aC
 (intro k ⟨hk,hgone⟩;intro K hK;(conv=>whnf);refine hK _ _ ?_;clear hK K)
 by_cases hlt:k<l.length
 ·obtain ⟨g0,g1,g2⟩:=hv.get3 hlt
  have hx:l[k]?=some l[k]:=List.getElem?_eq_getElem hlt
  generalize l[k]=x at *
  have hw:=oF x ports a
  by_cases hq:Ac.ok1 ports x
  ·rw [decide_eq_true hq] at hw
   obtain ⟨xk,xf,xv⟩:=x
   simp only [Ac.A.av] at *
   repeat' first|(intro K hK;(with_reducible refine gC ?_);refine cS [1] hw ?_)|(refine sxZ ?_;try clear hK K)|refine sxW ?_ ?_<;>intro _|(intro K hK _;conv=>whnf)
   refine aB (k+1) ⟨hlt,fun j y hj hy=>?_⟩ (by omega) ?_ (MemFits.eq rfl)
   ·by_cases e:j=k
    ·subst e
     rw [hx] at hy
     injection hy with hy
     rw [← hy];exact hq
    ·exact hgone j y (by omega) hy
   ·exact aC
  ·rw [decide_eq_false hq] at hw
   have hmem:=List.mem_of_getElem? hx
   obtain ⟨xk,xf,xv⟩:=x
   simp only [Ac.A.av] at *
   repeat' first|(intro K hK;(with_reducible refine gC ?_);refine cS [1] hw ?_)|(refine sxZ ?_;try clear hK K)|refine sxW ?_ ?_<;>intro _|(intro K hK _;conv=>whnf)
   exact ⟨⟨_,rfl,⟨fun _=>⟨_,hmem,hq⟩,fun _=>by omega⟩⟩,rfl⟩
 ·repeat' first|(refine sxZ ?_;try clear hK K)|refine sxW ?_ ?_<;>intro _|(intro K hK _;conv=>whnf)
  refine ⟨⟨_,rfl,⟨fun h=>by omega,fun ⟨x,hx,hq⟩=>?_⟩⟩,rfl⟩
  obtain ⟨j,hj,e⟩:=List.getElem_of_mem hx
  exact (hq (hgone j x (by omega) (by rw [← e];exact List.getElem?_eq_getElem hj))).elim
theorem ku (F:Heap) (v:Value) (l:List Ac.A) (hv:aH F 3 (fun x vs=>vs=Ac.actV x) v l) (hn:l.length≤9223372036854775807) (ports:Int) (a:Addr) :
  NCall Tryz.prog 91 [.hs v l.length,.fn 92 [] [.ptr 1 a 0]] [hpB F,eD a ports] fun r m=>r = .bool (!decide (∀ x∈l,Ac.ok1 ports x))∧m=[hpB F,eD a ports]:=by
 refine aA Tryz.func91 rfl (by decide) ?_
 repeat' first|(intro K hK;(with_reducible refine gC ?_);(refine cN [0,1] (pE F v l hv hn ports a) ?_;rintro _ _ ⟨⟨j,rfl,hj⟩,rfl⟩;refine cR ?_))|(refine sxZ ?_;try clear hK K)|refine sxW ?_ ?_<;>intro _|(intro K hK _;conv=>whnf)
 refine ⟨?_,rfl⟩
 by_cases h:∀ x∈l,Ac.ok1 ports x
 ·rw [decide_eq_true h,decide_eq_false (fun e=>?_)]
  ·rfl
  ·obtain ⟨x,hx,hq⟩:=hj.1 e
   exact hq (h x hx)
 ·rw [decide_eq_false h,decide_eq_true (hj.2 (by simpa using h))]
  rfl
theorem nJ (F:Heap) (v:Value) (l:List Ac.A) (hv:aH F 3 (fun x vs=>vs=Ac.actV x) v l) (hn:l.length≤9223372036854775807) (ports:Int) :
  NCall Tryz.prog 59 [.hs v l.length,.int .i64 ports] [hpB F] fun r m=>r = .bool (decide (Ac.okL ports l))∧m=[hpB F]:=by
 have hok:=hv.ok
 refine NCall.fits (K:=fun r m=>r = .bool (decide (Ac.okL ports l))∧MemFits m [hpB F]) ?_ fun r m' h=>⟨r,_,rfl,h.2,h.1,rfl⟩
 refine aA Tryz.func59 rfl (by decide) ?_
 have hc:=fun a=>ku F v l hv hn ports a
 have hq:Ac.okL ports l↔l.length≤16∧∀ x∈l,Ac.ok1 ports x:=Iff.rfl
 by_cases h:∀ x∈l,Ac.ok1 ports x
 ·simp only [decide_eq_true h] at hc
  repeat' first|(intro K hK;(with_reducible refine gC ?_);refine cS [0,1] (hc _) ?_)|(refine sxZ ?_;try clear hK K)|refine sxW ?_ ?_<;>intro _|(intro K hK _;conv=>whnf)
  all_goals first
   | exact ⟨cZ (fun e=>by have:=(hq.1 e).1;omega),MemFits.drop [_] [_]⟩
   | exact ⟨boolT (hq.2 ⟨by omega,h⟩),MemFits.drop [_] [_]⟩
 ·simp only [decide_eq_false h] at hc
  repeat' first|(intro K hK;(with_reducible refine gC ?_);refine cS [0,1] (hc _) ?_)|(refine sxZ ?_;try clear hK K)|refine sxW ?_ ?_<;>intro _|(intro K hK _;conv=>whnf)
  all_goals first
   | exact ⟨cZ (fun e=>h (hq.1 e).2),MemFits.drop [_] [_]⟩
namespace Ac
structure P4 where
 a:Int
 b:Int
 c:Int
 d:Int
deriving DecidableEq
def P4.av (p:P4):List AV:=[.int .i64 p.a,.int .i64 p.b,.int .i64 p.c,.int .i64 p.d]
def P4.set (p:P4) (f v:Int):P4:=if f=0 then { p with a:=v } else if f=1 then { p with b:=v } else if f=2 then { p with c:=v } else { p with d:=v }
def valid (f v:Int):Prop:=0≤f∧f<4∧0≤v∧v≤Mt.top f
instance (f v:Int):Decidable (valid f v):=by unfold valid;infer_instance
def withF (p:P4) (f v:Int):P4:=if valid f v then p.set f v else p
structure S where
 port:Int
 p:P4
deriving DecidableEq
def S.av (s:S):List AV:=[.int .i64 s.port,.int .i64 s.p.a,.int .i64 s.p.b,.int .i64 s.p.c,.int .i64 s.p.d]
def sentV (s:S):List Value:=[.int .i64 s.port,.int .i64 s.p.a,.int .i64 s.p.b,.int .i64 s.p.c,.int .i64 s.p.d]
def step (came:P4) (s:P4 × List S) (x:A):P4 × List S :=
 if x.k=3 then (came,s.2) else if x.k=1 then (withF s.1 x.f x.v,s.2) else if x.k=2 then (s.1,s.2++[⟨x.v,s.1⟩]) else s
def st (came:P4) (l:List A):P4 × List S:=l.foldl (step came) (came,[])
def run (came:P4) (l:List A):List S:=(st came l).2
theorem st_next {came:P4} {l:List A} {k:Nat} {x:A} (h:l[k]?=some x):st came (l.take (k+1))=step came (st came (l.take k)) x:=by
 unfold st
 rw [List.take_add_one,h,List.foldl_append]
 rfl
theorem step_len (came:P4) (s:P4 × List S) (x:A):(step came s x).2.length≤s.2.length+1:=by
 unfold step
 split
 ·simp
 ·split
  ·simp
  ·split<;>simp
theorem foldl_len (came:P4):∀ (l:List A) (s:P4 × List S),(l.foldl (step came) s).2.length≤s.2.length+l.length
 | [],s=>by simp
 | x::l,s=>by
  have h1:=foldl_len came l (step came s x)
  have h2:=step_len came s x
  simp only [List.foldl_cons,List.length_cons]
  omega
theorem st_len (came:P4) (l:List A):(st came l).2.length≤l.length:=by
 have:=foldl_len came l (came,[])
 simpa [st] using this
theorem step_3 {c p:P4} {o:List S} {x:A} (h:x.k=3):step c (p,o) x=(c,o):=by unfold step;rw [if_pos h]
theorem step_1 {c p:P4} {o:List S} {x:A} (h:x.k=1):step c (p,o) x=(withF p x.f x.v,o):=by unfold step;rw [if_neg (by omega),if_pos h]
theorem step_2 {c p:P4} {o:List S} {x:A} (h:x.k=2):step c (p,o) x=(p,o++[⟨x.v,p⟩]):=by unfold step;rw [if_neg (by omega),if_neg (by omega),if_pos h]
end Ac
deriving instance DecidableEq for Mt.M
theorem oz (x y:Mt.M):(decide (x.p=y.p)&&(decide (x.v0=y.v0)&&(decide (x.v1=y.v1)&&(decide (x.v2=y.v2)&&(decide (x.v3=y.v3)&&(decide (x.m0=y.m0)&&(decide (x.m1=y.m1)&&(decide (x.m2=y.m2)&&(decide (x.m3=y.m3)&&true)))))))))=decide (x=y):=by
 obtain ⟨p,v0,v1,v2,v3,m0,m1,m2,m3⟩:=x
 obtain ⟨p',w0,w1,w2,w3,n0,n1,n2,n3⟩:=y
 rw [Bool.eq_iff_iff]
 simp only [Bool.and_eq_true,decide_eq_true_eq,Mt.M.mk.injEq,and_true]
namespace Ru
structure R where
 prio:Int
 m:Mt.M
 acts:List Ac.A
def R.cs (x:R) (v:Value):List AV:=[.int .i64 x.prio,.int .i64 x.m.p,.int .i64 x.m.v0,.int .i64 x.m.v1,.int .i64 x.m.v2,.int .i64 x.m.v3,.int .i64 x.m.m0,.int .i64 x.m.m1,.int .i64 x.m.m2,.int .i64 x.m.m3,.hs v x.acts.length]
def R.in64 (x:R):Prop:=Mt.i64 x.prio∧x.m.in64∧(∀ y∈x.acts,y.in64)∧x.acts.length≤9223372036854775807
def ok (ports:Int) (x:R):Prop:=0≤x.prio∧x.prio<65536∧x.m.ok∧Ac.okL ports x.acts
instance (ports:Int) (x:R):Decidable (ok ports x):=by unfold ok;infer_instance
def RowA (F:Heap) (v:Value) (x:R):Prop:=aH F 3 (fun x vs=>vs=Ac.actV x) v x.acts
end Ru
end Go.Proofs.YtmehinfgdcmmjaaGreat
