/- A part of the proof. -/
import Derived.Test.YtmehinfgdcmmjaaGreatDoorTJ21
import Derived.Test.YtmehinfgdcmmjaaGreatDoorTJ31
import Derived.Test.YtmehinfgdcmmjaaGreatDoorTJ4
namespace Go.Proofs.YtmehinfgdcmmjaaGreatDoor
open Go.Sx
set_option maxRecDepth 20000
set_option linter.unusedSimpArgs false
set_option linter.unusedVariables false
set_option maxHeartbeats 4000000
namespace Cm
def ixN {α:Type} (q:α→Bool):List α→Nat→Int
 | [],_=>-1
 | x::l,n=>if q x=true then (n:Int) else ixN q l (n+1)
def ix {α:Type} (q:α→Bool) (l:List α):Int:=ixN q l 0
theorem ixN_drop {α:Type} (q:α→Bool) {l:List α} {i:Nat} {x:α} (hx:l[i]?=some x):ixN q (l.drop i) i=if q x=true then (i:Int) else ixN q (l.drop (i+1)) (i+1):=by
 obtain ⟨h1,rfl⟩:=List.getElem?_eq_some_iff.1 hx
 rw [List.drop_eq_getElem_cons h1,ixN]
theorem ixN_none {α:Type} (q:α→Bool):∀ (l:List α) (n:Nat),(∀ x∈l,q x=false)→ixN q l n = -1
 | [],_,_=>rfl
 | x::l,n,h=>by
  rw [ixN,h x (List.mem_cons_self ..),if_neg (by decide)]
  exact ixN_none q l (n+1) fun y hy=>h y (List.mem_cons_of_mem _ hy)
theorem ix_none {α:Type} {q:α→Bool} {l:List α} (h:∀ x∈l,q x=false):ix q l = -1:=ixN_none q l 0 h
theorem cs_eq (x:Ru.R) (v:Value):x.cs v=[.int .i64 x.prio,.int .i64 x.m.p,.int .i64 x.m.v0,.int .i64 x.m.v1,.int .i64 x.m.v2,.int .i64 x.m.v3,.int .i64 x.m.m0,.int .i64 x.m.m1,.int .i64 x.m.m2,.int .i64 x.m.m3,.hs v x.acts.length]:=rfl
end Cm
theorem ot (F:Heap) (q:Ru.R→Bool) (v:Value) (l:List Ru.R) (hv:Cm.Row F v l) (hn:l.length≤4611686018427387904) (g:FuncId) (captured:List AV)
  (hg:∀ x∈l,∀ A,Cm.ARow F A x.acts→Qz Tryz.prog g ([.agg (x.cs A)]++captured) [hpB F] fun r m=>r = .bool (q x)∧m=[hpB F]) :
  Qz Tryz.prog 62 [.hs v l.length,.fn g [] captured] [hpB F] fun r m=>r = .int .i64 (Cm.ix q l)∧m=[hpB F]:=by
 have hok:=hv.ok
 have hd:=fun i x h=>Cm.ixN_drop q (l:=l) (i:=i) (x:=x) h
 refine aB Tryz.func62 rfl (by decide) ?_
 repeat' first|(refine sxZ ?_;try clear hK K)|refine sxW ?_ ?_<;>intro _|(intro K hK _;conv=>whnf)
 refine aE (α:=Nat) (fun k=>k≤l.length∧Cm.ix q l=Cm.ixN q (l.drop k) k) (fun k=>[.k,.k,.k,.k,.d,.d,.k,.k,.set (.int .i64 k),.d,.d,.d,.d,.d,.d,.d,.d,.d,.d]) (fun _=>[]) (fun k=>l.length - k) 0 ⟨Nat.zero_le _,rfl⟩ ?_ (Qw.eq rfl) ?_
 ·exact aD
 (intro k ⟨hk,he⟩;intro K hK;(conv=>whnf);refine hK _ _ ?_;clear hK K)
 by_cases hlt:k<l.length
 ·have hx:l[k]?=some l[k]:=List.getElem?_eq_getElem hlt
  obtain ⟨A,cap,hA,c0,c1,c2,c3,c4,c5,c6,c7,c8,c9,c10⟩:=hv.get hx
  have c:=hg _ (List.getElem_mem hlt) _ hA
  have hoA:=hA.ok
  have hnx:=hd k _ hx
  clear hg hA hd
  generalize l[k]=x at *
  generalize hb:q x=b at *
  clear hb
  obtain ⟨x0,⟨m0,m1,m2,m3,m4,m5,m6,m7,m8⟩,xo⟩:=x
  simp only [Cm.cs_eq,List.cons_append,List.nil_append] at *
  cases b with
  | false =>
   rw [if_neg (by decide)] at hnx
   repeat' first|(intro K hK;(with_reducible refine gC ?_);refine cS [0] c ?_)|(refine sxZ ?_;try clear hK K)|refine sxW ?_ ?_<;>intro _|(intro K hK _;conv=>whnf)
   refine aC (k+1) ⟨hlt,he.trans hnx⟩ (by omega) ?_ (Qw.eq rfl)
   exact aD
  | true =>
   rw [if_pos rfl] at hnx
   rw [he,hnx]
   repeat' first|(intro K hK;(with_reducible refine gC ?_);refine cS [0] c ?_)|(refine sxZ ?_;try clear hK K)|refine sxW ?_ ?_<;>intro _|(intro K hK _;conv=>whnf)
   exact ⟨rfl,rfl⟩
 ·have hkl:k=l.length:=by omega
  subst hkl
  rw [List.drop_length] at he
  rw [he]
  repeat' first|(refine sxZ ?_;try clear hK K)|refine sxW ?_ ?_<;>intro _|(intro K hK _;conv=>whnf)
  exact ⟨rfl,rfl⟩
theorem qr (F:Heap) (x y:Ru.R) (A B:Value) (b:Addr) (hp:CellsF F b 0 (denL (x.cs A))) (hA:SlOk A x.acts.length) :
  Qz Tryz.prog 82 [.agg (y.cs B),.hp b 0] [hpB F] fun r m=>r = .bool (decide (x.prio=y.prio∧x.m=y.m))∧m=[hpB F]:=by
 refine Qz.fits (K:=fun r m=>r = .bool (decide (x.prio=y.prio∧x.m=y.m))∧Qw m [hpB F]) ?_ fun r m' h=>⟨r,_,rfl,h.2,h.1,rfl⟩
 have ck:=qL x y A B
 obtain ⟨A0,cap,rfl,hc1,hc2⟩:=hA
 rw [Cm.cs_eq] at hp
 obtain ⟨e0,e1,e2,e3,e4,e5,e6,e7,e8,e9,e10,_⟩:=hp
 have e10:F.c (b.add (0+1+1+1+1+1+1+1+1+1+1)) (.slice A0 x.acts.length cap):=e10
 have hoA:SlOk (.slice A0 x.acts.length cap) x.acts.length:=⟨A0,cap,rfl,hc1,hc2⟩
 generalize decide (x.prio=y.prio∧x.m=y.m)=z at *
 obtain ⟨x0,⟨m0,m1,m2,m3,m4,m5,m6,m7,m8⟩,xo⟩:=x
 obtain ⟨y0,⟨n0,n1,n2,n3,n4,n5,n6,n7,n8⟩,yo⟩:=y
 simp only [Cm.cs_eq] at *
 refine aB Tryz.func82 rfl (by decide) ?_
 repeat' first|(intro K hK;(with_reducible refine gC ?_);refine cP ck ?_)|(refine sxO ?_;try clear hK K)|refine sxW ?_ ?_<;>intro _|refine sxV ?_ ?_|(intro K hK _;conv=>whnf)
 all_goals exact ⟨rfl,Qw.pre 1 rfl⟩
theorem qK (F:Heap) (x:Ru.R) (A:Value) (hA:SlOk A x.acts.length) (v:Value) (l:List Ru.R) (hv:Cm.Row F v l) (hn:l.length≤4611686018427387904) :
  Qz Tryz.prog 42 [.hs v l.length,.agg (x.cs A)] [hpB F] fun r m=>r = .int .i64 (Cm.ix (fun y=>decide (x.prio=y.prio∧x.m=y.m)) l)∧m=[hpB F]:=by
 refine Qz.fits (K:=fun r m=>r = .int .i64 (Cm.ix (fun y=>decide (x.prio=y.prio∧x.m=y.m)) l)∧Qw m [hpB F]) ?_ fun r m' h=>⟨r,_,rfl,h.2,h.1,rfl⟩
 have hok:=hv.ok
 have kE:∀ b:Nat,Qz Tryz.prog 62 [.hs v l.length,.fn 82 [] [.ptr 1 ⟨b,0,none⟩ 0]] [hpB F,⟨⟨b,0,none⟩,x.cs A,.var 75⟩] fun r m=>r = .int .i64 (Cm.ix (fun y=>decide (x.prio=y.prio∧x.m=y.m)) l)∧m=[hpB F,⟨⟨b,0,none⟩,x.cs A,.var 75⟩]:=fun b =>
  Qz.keep (ot (addF F ⟨b,0,none⟩ (denL (x.cs A))) (fun y=>decide (x.prio=y.prio∧x.m=y.m)) v l (Cm.Row.mono addF.old hv) hn 82 [.hp ⟨b,0,none⟩ 0] fun y hy B hB=>qr _ x y A B _ addF.new hA) rfl (Qw.freezeVar (m:=[])) rfl fun r mL' h=>⟨r,rfl,h.1,rfl⟩
 generalize Cm.ix (fun y=>decide (x.prio=y.prio∧x.m=y.m)) l=z at *
 obtain ⟨x0,⟨m0,m1,m2,m3,m4,m5,m6,m7,m8⟩,xo⟩:=x
 simp only [Cm.cs_eq] at *
 refine aB Tryz.func42 rfl (by decide) ?_
 repeat' first|(intro K hK;(with_reducible refine gC ?_);refine cS [0,1] (kE _) ?_)|(refine sxZ ?_;try clear hK K)|refine sxW ?_ ?_<;>intro _|(intro K hK _;conv=>whnf)
 all_goals exact ⟨rfl,Qw.pre 1 rfl⟩
theorem lK (F:Heap) (v w:Value) (l:List Ru.R) (hv:Cm.Row F v l) (hw:Cm.Row F w l) (hn:l.length≤4611686018427387904) (ha:∀ x∈l,x.acts.length≤1000) :
  Qz Tryz.prog 16 [.hs v l.length,.hs w l.length] [hpB F] fun r m=>r = .bool true∧m=[hpB F]:=by
 refine Qz.fits (K:=fun r m=>r = .bool true∧Qw m [hpB F]) ?_ fun r m' h=>⟨r,_,rfl,h.2,h.1,rfl⟩
 have hok:=hv.ok
 have hok2:=hw.ok
 refine aB Tryz.func16 rfl (by decide) ?_
 repeat' first|(refine sxZ ?_;try clear hK K)|refine sxW ?_ ?_<;>intro _|(intro K hK _;conv=>whnf)
 all_goals try (exfalso;omega)
 refine aE (α:=Nat) (fun k=>k≤l.length) (fun k=>[.k,.k,.k,.k,.set (.bool false),.set (.int .i64 k),.k,.k,.k,.k,.k,.d,.d,.d,.d,.d,.d,.d,.d,.d,.d,.d,.d,.d,.d,.d,.d]) (fun _=>[]) (fun k=>l.length - k) 0 (Nat.zero_le _) ?_ (Qw.eq rfl) ?_
 ·exact aD
 (intro k hk;intro K hK;(conv=>whnf);refine hK _ _ ?_;clear hK K)
 by_cases hlt:k<l.length
 ·have hx:l[k]?=some l[k]:=List.getElem?_eq_getElem hlt
  obtain ⟨A,cap,hA,c0,c1,c2,c3,c4,c5,c6,c7,c8,c9,c10⟩:=hv.get hx
  obtain ⟨B,cap2,hB,d0,d1,d2,d3,d4,d5,d6,d7,d8,d9,d10⟩:=hw.get hx
  have hal:=ha _ (List.getElem_mem hlt)
  have cs:=ji F l[k] l[k] _ _ hA hB (by omega) (by omega)
  rw [decide_eq_true (show Ru.same l[k] l[k] from ⟨⟨rfl,rfl⟩,rfl⟩)] at cs
  have hoA:=hA.ok
  have hoB:=hB.ok
  clear hA hB
  generalize l[k]=x at *
  obtain ⟨x0,⟨m0,m1,m2,m3,m4,m5,m6,m7,m8⟩,xo⟩:=x
  simp only [Cm.cs_eq] at *
  repeat' first|(intro K hK;(with_reducible refine gC ?_);refine cS [0] cs ?_)|(refine aJ [] ?_;try clear hK K)|refine sxW ?_ ?_<;>intro _|refine aK ?_ ?_|(intro K hK _;conv=>whnf)
  all_goals
   refine aC (k+1) hlt (by omega) ?_ (Qw.eq rfl)
   exact aD
 ·repeat' first|(refine sxZ ?_;try clear hK K)|refine sxW ?_ ?_<;>intro _|(intro K hK _;conv=>whnf)
  all_goals first | (exfalso;omega) | exact ⟨rfl,Qw.pre 1 rfl⟩
theorem ny (F:Heap) (v:Value) (l:List Ru.R) (hv:Cm.Row F v l) (hn:l.length≤1000000) (room:Int) (hr:(l.length:Int)≤room) (ports:Int) (h64:∀ x∈l,x.in64) (hok:∀ x∈l,Ru.ok ports x) (hp:∀ i j (hi:i<l.length) (hj:j<l.length),i<j→l[j].prio<l[i].prio) :
  Qz Tryz.prog 17 [.hs v l.length,.int .i64 ports,.int .i64 room] [hpB F] fun r m=>r = .bool true∧m=[hpB F]:=by
 refine Qz.fits (K:=fun r m=>r = .bool true∧Qw m [hpB F]) ?_ fun r m' h=>⟨r,_,rfl,h.2,h.1,rfl⟩
 have hvo:=hv.ok
 refine aB Tryz.func17 rfl (by decide) ?_
 repeat' first|(refine sxZ ?_;try clear hK K)|refine sxW ?_ ?_<;>intro _|(intro K hK _;conv=>whnf)
 all_goals try (exfalso;omega)
 refine aE (α:=Nat) (fun k=>k≤l.length) (fun k=>[.k,.k,.k,.k,.k,.k,.d,.d,.d,.k,.k,.k,.k,.k,.k,.set (.int .i64 k),.d,.d,.d,.d,.d,.d,.d,.d,.d,.d,.d,.d,.d,.d,.d,.d,.d,.d,.d,.d,.d,.d,.d,.d,.d,.d,.d,.d]) (fun _=>[]) (fun k=>l.length - k) 0 (Nat.zero_le _) ?_ (Qw.eq rfl) ?_
 ·exact aD
 (intro k hk;intro K hK;(conv=>whnf);refine hK _ _ ?_;clear hK K)
 by_cases hlt:k<l.length
 ·have hx:l[k]?=some l[k]:=List.getElem?_eq_getElem hlt
  obtain ⟨A,cap,hA,c0,c1,c2,c3,c4,c5,c6,c7,c8,c9,c10⟩:=hv.get hx
  have cr:=mr F _ l[k] hA (h64 _ (List.getElem_mem hlt)) ports
  rw [decide_eq_true (hok _ (List.getElem_mem hlt))] at cr
  have hcut:Cm.Row F (cutSl v 11 0 k) (l.take k):=by
   have h:=hv.cut (lo:=0) (hi:=k) (by omega) (by omega)
   rwa [List.drop_zero,Nat.sub_zero] at h
  have ck:=qK F l[k] _ hA.ok _ _ hcut (by rw [List.length_take];omega)
  rw [Cm.ix_none (fun y hy=>by
   obtain ⟨j,hj,e⟩:=List.getElem_of_mem hy
   rw [List.length_take] at hj
   refine decide_eq_false fun h=>?_
   have:=hp j k (by omega) hlt (by omega)
   rw [List.getElem_take] at e
   rw [e] at this
   omega),List.length_take,Nat.min_eq_left hk] at ck
  have hoA:=hA.ok
  by_cases h0:k=0
  ·clear hA hcut hp
   generalize l[k]=x at *
   obtain ⟨x0,⟨m0,m1,m2,m3,m4,m5,m6,m7,m8⟩,xo⟩:=x
   simp only [Cm.cs_eq] at *
   repeat' first|(intro K hK;(with_reducible refine gC ?_);first|refine cS [0] cr ?_|refine cS [0] ck ?_)|(refine aJ [] ?_;try clear hK K)|refine sxW ?_ ?_<;>intro _|refine aK ?_ ?_|(intro K hK _;conv=>whnf)
   all_goals first
    | (exfalso;omega)
    | (refine aC (k+1) hlt (by omega) (by exact aD) (Qw.pre 1 rfl))
  ·obtain ⟨B,cap2,hB,d0,d1,d2,d3,d4,d5,d6,d7,d8,d9,d10⟩:=hv.get (List.getElem?_eq_getElem (by omega:k - 1<l.length))
   have ca:=np l[k] l[k - 1] (.slice A l[k].acts.length cap) (.slice B l[k - 1].acts.length cap2)
   rw [decide_eq_false (by have:=hp (k - 1) k (by omega) hlt (by omega);omega)] at ca
   have ek:((k:Int) - 1).toNat=k - 1:=by omega
   have hoB:=hB.ok
   clear hA hB hcut hp hx
   generalize l[k]=x at *
   generalize l[k - 1]=y at *
   rw [← ek] at d0 d1 d2 d3 d4 d5 d6 d7 d8 d9 d10
   obtain ⟨x0,⟨m0,m1,m2,m3,m4,m5,m6,m7,m8⟩,xo⟩:=x
   obtain ⟨y0,⟨n0,n1,n2,n3,n4,n5,n6,n7,n8⟩,yo⟩:=y
   simp only [Cm.cs_eq] at *
   repeat' first|(intro K hK;(with_reducible refine gC ?_);first|refine cS [0] cr ?_|refine cP ca ?_|refine cS [0] ck ?_)|(refine aJ [] ?_;try clear hK K)|refine sxW ?_ ?_<;>intro _|refine aK ?_ ?_|(intro K hK _;conv=>whnf)
   all_goals first
    | (exfalso;omega)
    | (refine aC (k+1) hlt (by omega) (by exact aD) (Qw.pre 1 rfl))
 ·repeat' first|(refine sxZ ?_;try clear hK K)|refine sxW ?_ ?_<;>intro _|(intro K hK _;conv=>whnf)
  all_goals first | (exfalso;omega) | exact ⟨rfl,Qw.pre 1 rfl⟩
end Go.Proofs.YtmehinfgdcmmjaaGreatDoor
