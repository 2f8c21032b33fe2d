import Derived.Test.YtmehinfgdcmmjaaGreatJ21
import Derived.Test.YtmehinfgdcmmjaaGreatJ38
import Derived.Test.YtmehinfgdcmmjaaGreatJ37
import Derived.Test.YtmehinfgdcmmjaaGreatJ30
import Derived.Test.YtmehinfgdcmmjaaGreatJ19
namespace Go.Proofs.YtmehinfgdcmmjaaGreat
open Go.Sx
set_option maxRecDepth 20000
set_option maxHeartbeats 4000000
set_option linter.unusedVariables false
namespace Cm
end Cm
set_option linter.unusedSimpArgs false
namespace Cm
def ixN {α:Type} (q:α→Bool):List α→Nat→Int
 | [],_=>-1
 | x::l,n=>if q x=true then (n:Int) else ixN q l (n+1)
def ix {α:Type} (q:α→Bool) (l:List α):Int:=ixN q l 0
theorem ixN_drop {α:Type} (q:α→Bool) {l:List α} {i:Nat} {x:α} (hx:l[i]?=some x):ixN q (l.drop i) i=if q x=true then (i:Int) else ixN q (l.drop (i+1)) (i+1):=by
 obtain ⟨h1,rfl⟩:=List.getElem?_eq_some_iff.1 hx
 rw [List.drop_eq_getElem_cons h1,ixN]
theorem ixN_none {α:Type} (q:α→Bool):∀ (l:List α) (n:Nat),(∀ x∈l,q x=false)→ixN q l n = -1
 | [],_,_=>rfl
 | x::l,n,h=>by
  rw [ixN,h x (List.mem_cons_self ..),if_neg (by decide)]
  exact ixN_none q l (n+1) fun y hy=>h y (List.mem_cons_of_mem _ hy)
theorem ix_none {α:Type} {q:α→Bool} {l:List α} (h:∀ x∈l,q x=false):ix q l = -1:=ixN_none q l 0 h
theorem ixN_find {α:Type} (q:α→Bool):∀ (l:List α) (n:Nat) (c:α),l.find? q=some c→∃ i,ixN q l n=((n+i:Nat):Int)∧l[i]?=some c
 | [],n,c,h=>by simp at h
 | x::l,n,c,h=>by
  rw [List.find?_cons] at h
  rw [ixN]
  cases hq:q x with
  | true =>
   rw [hq] at h
   injection h with h
   subst h
   exact ⟨0,by simp,rfl⟩
  | false =>
   rw [hq] at h
   obtain ⟨i,h1,h2⟩:=ixN_find q l (n+1) c h
   exact ⟨i+1,by simp;rw [h1];omega,h2⟩
theorem ix_find {α:Type} {q:α→Bool} {l:List α} {c:α} (h:l.find? q=some c):∃ i:Nat,ix q l=(i:Int)∧l[i]?=some c:=by
 obtain ⟨i,h1,h2⟩:=ixN_find q l 0 c h
 exact ⟨i,by unfold ix;rw [h1];simp,h2⟩
theorem cs_eq (x:Ru.R) (v:Value):x.cs v=[.int .i64 x.prio,.int .i64 x.m.p,.int .i64 x.m.v0,.int .i64 x.m.v1,.int .i64 x.m.v2,.int .i64 x.m.v3,.int .i64 x.m.m0,.int .i64 x.m.m1,.int .i64 x.m.m2,.int .i64 x.m.m3,.hs v x.acts.length]:=rfl
end Cm
theorem kZ (F:Heap) (q:Ru.R→Bool) (v:Value) (l:List Ru.R) (hv:Cm.Row F v l) (hn:l.length≤4611686018427387904) (g:FuncId) (captured:List AV)
  (hg:∀ x∈l,∀ A,Cm.ARow F A x.acts→NCall Tryz.prog g ([.agg (x.cs A)]++captured) [hpB F] fun r m=>r = .bool (q x)∧m=[hpB F]) :
  NCall Tryz.prog 54 [.hs v l.length,.fn g [] captured] [hpB F] fun r m=>r = .int .i64 (Cm.ix q l)∧m=[hpB F]:=by
 have hok:=hv.ok
 have hd:=fun i x h=>Cm.ixN_drop q (l:=l) (i:=i) (x:=x) h
 refine aA Tryz.func54 rfl (by decide) ?_
 repeat' first|(refine sxZ ?_;try clear hK K)|refine sxW ?_ ?_<;>intro _|(intro K hK _;conv=>whnf)
 refine aD (α:=Nat) (fun k=>k≤l.length∧Cm.ix q l=Cm.ixN q (l.drop k) k) (fun k=>[.k,.k,.k,.k,.d,.d,.k,.k,.set (.int .i64 k),.d,.d,.d,.d,.d,.d,.d,.d,.d,.d]) (fun _=>[]) (fun k=>l.length - k) 0 ⟨Nat.zero_le _,rfl⟩ ?_ (MemFits.eq rfl) ?_
 ·exact aC
 (intro k ⟨hk,he⟩;intro K hK;(conv=>whnf);refine hK _ _ ?_;clear hK K)
 by_cases hlt:k<l.length
 ·have hx:l[k]?=some l[k]:=List.getElem?_eq_getElem hlt
  obtain ⟨A,cap,hA,c0,c1,c2,c3,c4,c5,c6,c7,c8,c9,c10⟩:=hv.get hx
  have c:=hg _ (List.getElem_mem hlt) _ hA
  have hoA:=hA.ok
  have hnx:=hd k _ hx
  clear hg hA hd
  generalize l[k]=x at *
  generalize hb:q x=b at *
  clear hb
  obtain ⟨x0,⟨m0,m1,m2,m3,m4,m5,m6,m7,m8⟩,xo⟩:=x
  simp only [Cm.cs_eq,List.cons_append,List.nil_append] at *
  cases b with
  | false =>
   rw [if_neg (by decide)] at hnx
   repeat' first|(intro K hK;(with_reducible refine gC ?_);refine cS [0] c ?_)|(refine sxZ ?_;try clear hK K)|refine sxW ?_ ?_<;>intro _|(intro K hK _;conv=>whnf)
   refine aB (k+1) ⟨hlt,he.trans hnx⟩ (by omega) ?_ (MemFits.eq rfl)
   exact aC
  | true =>
   rw [if_pos rfl] at hnx
   rw [he,hnx]
   repeat' first|(intro K hK;(with_reducible refine gC ?_);refine cS [0] c ?_)|(refine sxZ ?_;try clear hK K)|refine sxW ?_ ?_<;>intro _|(intro K hK _;conv=>whnf)
   exact ⟨rfl,rfl⟩
 ·have hkl:k=l.length:=by omega
  subst hkl
  rw [List.drop_length] at he
  rw [he]
  repeat' first|(refine sxZ ?_;try clear hK K)|refine sxW ?_ ?_<;>intro _|(intro K hK _;conv=>whnf)
  exact ⟨rfl,rfl⟩
theorem rM (F:Heap) (x y:Ru.R) (A B:Value) (b:Addr) (hp:CellsF F b 0 (denL (x.cs A))) (hA:SlOk A x.acts.length) :
  NCall Tryz.prog 60 [.agg (y.cs B),.hp b 0] [hpB F] fun r m=>r = .bool (decide (x.prio=y.prio∧x.m=y.m))∧m=[hpB F]:=by
 refine NCall.fits (K:=fun r m=>r = .bool (decide (x.prio=y.prio∧x.m=y.m))∧MemFits m [hpB F]) ?_ fun r m' h=>⟨r,_,rfl,h.2,h.1,rfl⟩
 have ck:=qY x y A B
 obtain ⟨A0,cap,rfl,hc1,hc2⟩:=hA
 rw [Cm.cs_eq] at hp
 obtain ⟨e0,e1,e2,e3,e4,e5,e6,e7,e8,e9,e10,_⟩:=hp
 have e10:F.c (b.add (0+1+1+1+1+1+1+1+1+1+1)) (.slice A0 x.acts.length cap):=e10
 have hoA:SlOk (.slice A0 x.acts.length cap) x.acts.length:=⟨A0,cap,rfl,hc1,hc2⟩
 generalize decide (x.prio=y.prio∧x.m=y.m)=z at *
 obtain ⟨x0,⟨m0,m1,m2,m3,m4,m5,m6,m7,m8⟩,xo⟩:=x
 obtain ⟨y0,⟨n0,n1,n2,n3,n4,n5,n6,n7,n8⟩,yo⟩:=y
 simp only [Cm.cs_eq] at *
 refine aA Tryz.func60 rfl (by decide) ?_
 repeat' first|(intro K hK;(with_reducible refine gC ?_);refine cP ck ?_)|(refine sxO ?_;try clear hK K)|refine sxW ?_ ?_<;>intro _|refine sxV ?_ ?_|(intro K hK _;conv=>whnf)
 all_goals exact ⟨rfl,MemFits.pre 1 rfl⟩
theorem qX (F:Heap) (x:Ru.R) (A:Value) (hA:SlOk A x.acts.length) (v:Value) (l:List Ru.R) (hv:Cm.Row F v l) (hn:l.length≤4611686018427387904) :
  NCall Tryz.prog 27 [.hs v l.length,.agg (x.cs A)] [hpB F] fun r m=>r = .int .i64 (Cm.ix (fun y=>decide (x.prio=y.prio∧x.m=y.m)) l)∧m=[hpB F]:=by
 refine NCall.fits (K:=fun r m=>r = .int .i64 (Cm.ix (fun y=>decide (x.prio=y.prio∧x.m=y.m)) l)∧MemFits m [hpB F]) ?_ fun r m' h=>⟨r,_,rfl,h.2,h.1,rfl⟩
 have hok:=hv.ok
 have kE:∀ b:Nat,NCall Tryz.prog 54 [.hs v l.length,.fn 60 [] [.ptr 1 ⟨b,0,none⟩ 0]] [hpB F,⟨⟨b,0,none⟩,x.cs A,.var 83⟩] fun r m=>r = .int .i64 (Cm.ix (fun y=>decide (x.prio=y.prio∧x.m=y.m)) l)∧m=[hpB F,⟨⟨b,0,none⟩,x.cs A,.var 83⟩]:=fun b =>
  NCall.keep (kZ (addF F ⟨b,0,none⟩ (denL (x.cs A))) (fun y=>decide (x.prio=y.prio∧x.m=y.m)) v l (Cm.Row.mono addF.old hv) hn 60 [.hp ⟨b,0,none⟩ 0] fun y hy B hB=>rM _ x y A B _ addF.new hA) rfl (MemFits.freezeVar (m:=[])) rfl fun r mL' h=>⟨r,rfl,h.1,rfl⟩
 generalize Cm.ix (fun y=>decide (x.prio=y.prio∧x.m=y.m)) l=z at *
 obtain ⟨x0,⟨m0,m1,m2,m3,m4,m5,m6,m7,m8⟩,xo⟩:=x
 simp only [Cm.cs_eq] at *
 refine aA Tryz.func27 rfl (by decide) ?_
 repeat' first|(intro K hK;(with_reducible refine gC ?_);refine cS [0,1] (kE _) ?_)|(refine sxZ ?_;try clear hK K)|refine sxW ?_ ?_<;>intro _|(intro K hK _;conv=>whnf)
 all_goals exact ⟨rfl,MemFits.pre 1 rfl⟩
theorem oM (F:Heap) (v:Value) (l:List Ru.R) (hv:Cm.Row F v l) (hn:l.length≤1000000) (room:Int) (hr:(l.length:Int)≤room) (ports:Int) (h64:∀ x∈l,x.in64) (hok:∀ x∈l,Ru.ok ports x) (hp:∀ i j (hi:i<l.length) (hj:j<l.length),i<j→l[j].prio<l[i].prio) :
  NCall Tryz.prog 11 [.hs v l.length,.int .i64 ports,.int .i64 room] [hpB F] fun r m=>r = .bool true∧m=[hpB F]:=by
 refine NCall.fits (K:=fun r m=>r = .bool true∧MemFits m [hpB F]) ?_ fun r m' h=>⟨r,_,rfl,h.2,h.1,rfl⟩
 have hvo:=hv.ok
 refine aA Tryz.func11 rfl (by decide) ?_
 repeat' first|(refine sxZ ?_;try clear hK K)|refine sxW ?_ ?_<;>intro _|(intro K hK _;conv=>whnf)
 all_goals try (exfalso;omega)
 refine aD (α:=Nat) (fun k=>k≤l.length) (fun k=>[.k,.k,.k,.k,.k,.k,.d,.d,.d,.k,.k,.k,.k,.k,.k,.set (.int .i64 k),.d,.d,.d,.d,.d,.d,.d,.d,.d,.d,.d,.d,.d,.d,.d,.d,.d,.d,.d,.d,.d,.d,.d,.d,.d,.d,.d,.d]) (fun _=>[]) (fun k=>l.length - k) 0 (Nat.zero_le _) ?_ (MemFits.eq rfl) ?_
 ·exact aC
 (intro k hk;intro K hK;(conv=>whnf);refine hK _ _ ?_;clear hK K)
 by_cases hlt:k<l.length
 ·have hx:l[k]?=some l[k]:=List.getElem?_eq_getElem hlt
  obtain ⟨A,cap,hA,c0,c1,c2,c3,c4,c5,c6,c7,c8,c9,c10⟩:=hv.get hx
  have cr:=nL F _ l[k] hA (h64 _ (List.getElem_mem hlt)) ports
  rw [decide_eq_true (hok _ (List.getElem_mem hlt))] at cr
  have hcut:Cm.Row F (cutSl v 11 0 k) (l.take k):=by
   have h:=hv.cut (lo:=0) (hi:=k) (by omega) (by omega)
   rwa [List.drop_zero,Nat.sub_zero] at h
  have ck:=qX F l[k] _ hA.ok _ _ hcut (by rw [List.length_take];omega)
  rw [Cm.ix_none (fun y hy=>by
   obtain ⟨j,hj,e⟩:=List.getElem_of_mem hy
   rw [List.length_take] at hj
   refine decide_eq_false fun h=>?_
   have:=hp j k (by omega) hlt (by omega)
   rw [List.getElem_take] at e
   rw [e] at this
   omega),List.length_take,Nat.min_eq_left hk] at ck
  have hoA:=hA.ok
  by_cases h0:k=0
  ·clear hA hcut hp
   generalize l[k]=x at *
   obtain ⟨x0,⟨m0,m1,m2,m3,m4,m5,m6,m7,m8⟩,xo⟩:=x
   simp only [Cm.cs_eq] at *
   repeat' first|(intro K hK;(with_reducible refine gC ?_);first|refine cS [0] cr ?_|refine cS [0] ck ?_)|(refine aV [] ?_;try clear hK K)|refine sxW ?_ ?_<;>intro _|refine aW ?_ ?_|(intro K hK _;conv=>whnf)
   all_goals first
    | (exfalso;omega)
    | (refine aB (k+1) hlt (by omega) (by exact aC) (MemFits.pre 1 rfl))
  ·obtain ⟨B,cap2,hB,d0,d1,d2,d3,d4,d5,d6,d7,d8,d9,d10⟩:=hv.get (List.getElem?_eq_getElem (by omega:k - 1<l.length))
   have ca:=oD l[k] l[k - 1] (.slice A l[k].acts.length cap) (.slice B l[k - 1].acts.length cap2)
   rw [decide_eq_false (by have:=hp (k - 1) k (by omega) hlt (by omega);omega)] at ca
   have ek:((k:Int) - 1).toNat=k - 1:=by omega
   have hoB:=hB.ok
   clear hA hB hcut hp hx
   generalize l[k]=x at *
   generalize l[k - 1]=y at *
   rw [← ek] at d0 d1 d2 d3 d4 d5 d6 d7 d8 d9 d10
   obtain ⟨x0,⟨m0,m1,m2,m3,m4,m5,m6,m7,m8⟩,xo⟩:=x
   obtain ⟨y0,⟨n0,n1,n2,n3,n4,n5,n6,n7,n8⟩,yo⟩:=y
   simp only [Cm.cs_eq] at *
   repeat' first|(intro K hK;(with_reducible refine gC ?_);first|refine cS [0] cr ?_|refine cP ca ?_|refine cS [0] ck ?_)|(refine aV [] ?_;try clear hK K)|refine sxW ?_ ?_<;>intro _|refine aW ?_ ?_|(intro K hK _;conv=>whnf)
   all_goals first
    | (exfalso;omega)
    | (refine aB (k+1) hlt (by omega) (by exact aC) (MemFits.pre 1 rfl))
 ·repeat' first|(refine sxZ ?_;try clear hK K)|refine sxW ?_ ?_<;>intro _|(intro K hK _;conv=>whnf)
  all_goals first | (exfalso;omega) | exact ⟨rfl,MemFits.pre 1 rfl⟩
set_option maxHeartbeats 8000000
namespace Cm
theorem rule_ok {n k:Nat} {c:Tr.C} (hn:n≤1000) (hs:okS c.s) (ho:∀ u∈c.out,okS u):Ru.ok 8 (rule n k c):=by
 refine ⟨?_,?_,mt_ok hs,acts_ok hs ho⟩
 ·show (0:Int)≤((n - k:Nat):Int);omega
 ·show ((n - k:Nat):Int)<65536;omega
theorem tbl_facts {C:List Tr.C} {e room:Int} (hn:C.length≤1000) (hok:∀ c∈C,okS c.s∧∀ u∈c.out,okS u) :
  (tbl C e room).1.length≤1000∧(∀ x∈(tbl C e room).1,Ru.ok 8 x)∧(∀ i j (hi:i<(tbl C e room).1.length) (hj:j<(tbl C e room).1.length),i<j→(tbl C e room).1[j].prio<(tbl C e room).1[i].prio)∧((tbl C e room).2=0→((tbl C e room).1.length:Int)≤room):=by
 have hnil:∀ v:Int,¬ v=0→([]:List Ru.R).length≤1000∧(∀ x∈([]:List Ru.R),Ru.ok 8 x)∧(∀ i j (hi:i<([]:List Ru.R).length) (hj:j<([]:List Ru.R).length),i<j→([]:List Ru.R)[j].prio<([]:List Ru.R)[i].prio)∧(v=0→(([]:List Ru.R).length:Int)≤room):=fun v hv =>
  ⟨by simp,fun x hx=>(by cases hx),fun i j hi hj=>absurd hi (Nat.not_lt_zero _),fun h=>absurd h hv⟩
 unfold tbl
 split
 ·rename_i h;exact hnil e h
 ·split
  ·rename_i h;exact hnil _ h
  ·split
   ·exact hnil 6 (by decide)
   ·rename_i h
    have hlen:=rules_len C.length C 0
    refine ⟨by dsimp only;omega,fun x hx=>?_,fun i j hi hj hij=>?_,fun _=>by dsimp only;omega⟩
    ·obtain ⟨k,hk⟩:=List.getElem?_of_mem hx
     have hlt:k<C.length:=by
      have:=(List.getElem?_eq_some_iff.1 hk).1
      dsimp only at this
      omega
     dsimp only at hk
     rw [rules_at C.length C 0 k hlt] at hk
     injection hk with hk
     have:=hok _ (List.getElem_mem hlt)
     rw [← hk]
     exact rule_ok hn this.1 this.2
    ·dsimp only at hi hj ⊢
     have h1:=rules_at C.length C 0 i (by omega)
     have h2:=rules_at C.length C 0 j (by omega)
     rw [List.getElem?_eq_getElem hi] at h1
     rw [List.getElem?_eq_getElem hj] at h2
     injection h1 with h1
     injection h2 with h2
     rw [h1,h2]
     show ((C.length - (0+j):Nat):Int)<((C.length - (0+i):Nat):Int)
     omega
theorem ans_ok (sw:Int) (x:Po.T):∀ c∈(Tr.ans sw x).1,okS c.s∧∀ u∈c.out,okS u:=by
 unfold Tr.ans
 split
 ·rename_i hr
  exact all_ok (Po.right_fits' hr)
 ·intro c hc;cases hc
end Cm
end Go.Proofs.YtmehinfgdcmmjaaGreat
