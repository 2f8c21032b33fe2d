/- A part of the proof. -/
import Derived.Test.YtmehinfgdcmmjaaGreatDoorTPo3
import Derived.Test.YtmehinfgdcmmjaaGreatDoorTJ10
import Derived.Test.YtmehinfgdcmmjaaGreatDoorTJ3
import Derived.Test.YtmehinfgdcmmjaaGreatDoorTJ4
import Derived.Test.YtmehinfgdcmmjaaGreatDoorTJ9
namespace Go.Proofs.YtmehinfgdcmmjaaGreatDoor
open Go.Sx
set_option maxRecDepth 20000
set_option linter.unusedSimpArgs false
set_option linter.unusedVariables false
set_option maxHeartbeats 4000000
theorem Po.any_fits (l:List Po.T):(l.any fun x=>!Po.fits x)=!Po.fitsL l:=by
 induction l with
 | nil=>rfl
 | cons p l ih=>rw [List.any_cons,ih,Po.fitsL];cases Po.fits p<;>simp
theorem poF {p:Prop} [Decidable p] (h:¬ p):AV.bool false=AV.bool (decide p):=by rw [decide_eq_false h]
section
variable (F:Heap)
theorem oZ (k:Int) (p:Pd.T) (f v:Int) (l:List Po.T) (pu u:Value) (hok:SlOk u l.length) (hs:Pd.size p≤4611686018427387904) (hp:Pd.Row F pu p.l) :
  Qz Tryz.prog 183 [.agg (Po.cs (.mk k p f v l) pu u)] [hpB F] fun r m=>r = .bool (Po.none p)∧m=[hpB F]:=by
 refine Qz.fits (K:=fun r m=>r = .bool (Po.none p)∧Qw m [hpB F]) ?_ fun r m' h=>⟨r,_,rfl,h.2,h.1,rfl⟩
 have c:=je F _ p Po.noneP pu (.slice none 0 0) (Nat.le_refl _) hs (by decide +kernel) hp aI.nil
 have hpok:=hp.ok
 rw [aY]
 unfold Po.none
 generalize Pd.same p Po.noneP=b at *
 clear hs hp
 obtain ⟨pk,pf,pv,pl⟩:=p
 simp only [pd_cs,Po.noneP,Pd.T.k,Pd.T.f,Pd.T.v,Pd.T.l,List.length_nil] at *
 refine aB Tryz.func183 rfl (by decide) ?_
 repeat' first|(intro K hK;(with_reducible refine gC ?_);refine cS [0] c ?_)|(refine sxZ ?_;try clear hK K)|refine sxW ?_ ?_<;>intro _|(intro K hK _;conv=>whnf)
 all_goals exact ⟨rfl,Qw.pre 1 rfl⟩
theorem mj (k:Int) (p:Pd.T) (f v:Int) (l:List Po.T) (pu u:Value) (hs:Pd.size p≤4611686018427387904) (hn:l.length≤4611686018427387904) (hx:Po.At F (.mk k p f v l) pu u) :
  Qz Tryz.prog 142 [.agg (Po.cs (.mk k p f v l) pu u)] [hpB F] fun r m=>r = .bool (Po.shape k p f v l.length)∧m=[hpB F]:=by
 refine Qz.fits (K:=fun r m=>r = .bool (Po.shape k p f v l.length)∧Qw m [hpB F]) ?_ fun r m' h=>⟨r,_,rfl,h.2,h.1,rfl⟩
 have hp:Pd.Row F pu p.l:=hx.p
 have hok:SlOk u l.length:=hx.l.ok
 have hpok:=hp.ok
 have cn:=oZ F k p f v l pu u hok hs hp
 have cr:=mq F p pu hs hp
 have ct:=top26_c f
 unfold Po.shape
 rw [aY] at *
 generalize Po.none p=nb at *
 generalize Pd.right p=rb at *
 generalize Pd.top f=tp at *
 clear hs hx hp
 obtain ⟨pk,pf,pv,pl⟩:=p
 simp only [pd_cs,Pd.T.k,Pd.T.f,Pd.T.v,Pd.T.l] at *
 generalize l.length=n at *
 refine aB Tryz.func142 rfl (by decide) ?_
 by_cases h1:k=1
 ·subst h1
  cases rb
  all_goals (repeat' first|(intro K hK;(with_reducible refine gC ?_);refine cS [0] cr ?_)|(refine aJ [] ?_;try clear hK K)|refine sxW ?_ ?_<;>intro _|refine aK ?_ ?_|(intro K hK _;conv=>whnf))
  all_goals first
   | exact ⟨poF (by simp;try omega),Qw.pre 1 rfl⟩
   | exact ⟨poT (by simp;omega),Qw.pre 1 rfl⟩
   | (refine ⟨?_,Qw.pre 1 rfl⟩;congr 1;apply decide_eq_decide.2;simp;omega)
 by_cases h2:k=2
 ·subst h2
  cases nb
  all_goals (repeat' first|(intro K hK;(with_reducible refine gC ?_);first|refine cS [0] cn ?_|refine cP ct ?_)|(refine aJ [] ?_;try clear hK K)|refine sxW ?_ ?_<;>intro _|refine aK ?_ ?_|(intro K hK _;conv=>whnf))
  all_goals first
   | exact ⟨poF (by simp;try omega),Qw.pre 1 rfl⟩
   | exact ⟨poT (by simp;omega),Qw.pre 1 rfl⟩
   | (refine ⟨?_,Qw.pre 1 rfl⟩;congr 1;apply decide_eq_decide.2;simp;omega)
 by_cases h34:k=3∨k=4
 ·rcases h34 with rfl | rfl
  iterate 2
   ·cases nb
    all_goals (repeat' first|(intro K hK;(with_reducible refine gC ?_);refine cS [0] cn ?_)|(refine aJ [] ?_;try clear hK K)|refine sxW ?_ ?_<;>intro _|refine aK ?_ ?_|(intro K hK _;conv=>whnf))
    all_goals first
     | exact ⟨poF (by simp;try omega),Qw.pre 1 rfl⟩
     | exact ⟨poT (by simp;omega),Qw.pre 1 rfl⟩
     | (refine ⟨?_,Qw.pre 1 rfl⟩;congr 1;apply decide_eq_decide.2;simp;omega)
 by_cases h5:k=5
 ·subst h5
  cases rb
  all_goals (repeat' first|(intro K hK;(with_reducible refine gC ?_);refine cS [0] cr ?_)|(refine aJ [] ?_;try clear hK K)|refine sxW ?_ ?_<;>intro _|refine aK ?_ ?_|(intro K hK _;conv=>whnf))
  all_goals first
   | exact ⟨poF (by simp;try omega),Qw.pre 1 rfl⟩
   | exact ⟨poT (by simp;omega),Qw.pre 1 rfl⟩
   | (refine ⟨?_,Qw.pre 1 rfl⟩;congr 1;apply decide_eq_decide.2;simp;omega)
 repeat' first|(refine aJ [] ?_;try clear hK K)|refine sxW ?_ ?_<;>intro _|refine aK ?_ ?_|(intro K hK _;conv=>whnf)
 all_goals first
  | exact ⟨poF (by omega),Qw.pre 1 rfl⟩
  | (exfalso;omega)
end
end Go.Proofs.YtmehinfgdcmmjaaGreatDoor
namespace Go.Sx
open Go.RowKit
theorem jC {w:World} {v:Value} {t:TypeId} {sz n:Nat} {xs:List Value} (h:w.ownsRow 0 t sz v n xs) {k:Nat} (hk:k≤n) :
  w.ownsRow 0 t sz (cutSl v sz 0 k) k (xs.take (k*sz))∧addrOf (cutSl v sz 0 k)=addrOf v∧(cutSl v sz 0 k).ownBlock=v.ownBlock∧aw (cutSl v sz 0 k)=cutSl v sz 0 k∧cutSl v sz 0 n=v:=by
 obtain ⟨h5,h6⟩:=h
 have hle:k*sz≤n*sz:=Nat.mul_le_mul_right _ hk
 rcases h6 with ⟨rfl,rfl⟩ | ⟨g,cap,cur,rfl,hbg,hg,hc1,hc2,hc3,hc4⟩
 ·obtain rfl:k=0:=by omega
  exact ⟨⟨by simp,.inl ⟨rfl,rfl⟩⟩,rfl,rfl,rfl,rfl⟩
 ·have e:∀ k,cutSl (.slice (some ⟨g,0,none⟩) n cap) sz 0 k = .slice (some ⟨g,0,none⟩) k cap:=fun k=>by
   unfold cutSl aw
   dsimp only
   have:(⟨g,0,none⟩:Addr).add 0=⟨g,0,none⟩:=ia g 0
   split
   ·simp
   ·simp [this]
  rw [e,e]
  refine ⟨⟨by rw [List.length_take];omega,.inr ⟨g,cap,cur,rfl,hbg,hg,by omega,hc2,hc3,?_⟩⟩,rfl,rfl,rfl,rfl⟩
  rw [← hc4,List.take_take,Nat.min_eq_left hle]
theorem Qw.cutRow {F:Heap} {a:Addr} {cs:List AV} {v:Value} {t:TypeId} {sz n k:Nat} {m:List Blk} (hk:k≤n) :
  Qw (hpB F::⟨a,cs,.row v t sz n⟩::m) (hpB F::⟨addrOf (cutSl v sz 0 k),cs.take (k*sz),.row (cutSl v sz 0 k) t sz k⟩::m):=fun w hm=>by
 have hh:=hm.holds ⟨a,cs,.row v t sz n⟩ (by simp)
 unfold Blk.holds at hh
 obtain ⟨h1,h2⟩:=hh
 obtain ⟨h3,h4,h5,h6,h7⟩:=jC h1 hk
 have hbn:(⟨addrOf (cutSl v sz 0 k),cs.take (k*sz),.row (cutSl v sz 0 k) t sz k⟩:Blk).bn=(⟨a,cs,.row v t sz n⟩:Blk).bn:=h5
 have hset:(hpB F::⟨a,cs,.row v t sz n⟩::m).set 1 ⟨addrOf (cutSl v sz 0 k),cs.take (k*sz),.row (cutSl v sz 0 k) t sz k⟩=hpB F::⟨addrOf (cutSl v sz 0 k),cs.take (k*sz),.row (cutSl v sz 0 k) t sz k⟩::m:=rfl
 rw [← hset]
 refine ⟨hm.set (i:=1) (Nat.le_refl _) rfl rfl (fun _ _ _=>rfl) ?_ rfl (.inr (.inl hbn)),fun b hb=>?_,fun b hb=>?_⟩
 ·unfold Blk.holds
  dsimp only
  refine ⟨?_,rfl⟩
  have:denL (cs.take (k*sz))=(denL cs).take (k*sz):=by simp [az]
  rw [this]
  exact h3
 ·rcases l5 hb with h | h
  ·exact h
  ·exact ⟨_,List.mem_cons_of_mem _ (List.mem_cons_self ..),rfl,by show (⟨a,cs,.row v t sz n⟩:Blk).bn=some b;rw [← hbn];exact h⟩
 ·rcases iP hb with h | h
  ·exact h
  ·exact ⟨_,List.mem_cons_of_mem _ (List.mem_cons_self ..),by show (⟨a,cs,.row v t sz n⟩:Blk).bn=some b;rw [← hbn];exact h⟩
end Go.Sx
namespace Go.Proofs.YtmehinfgdcmmjaaGreatDoor
open Go.Sx
set_option maxRecDepth 20000
set_option linter.unusedSimpArgs false
set_option linter.unusedVariables false
set_option maxHeartbeats 4000000
namespace Pd
theorem psC_cons (p:T × Value) (ps:List (T × Value)):psC (p::ps)=cs p.1 p.2++psC ps:=rfl
theorem psC_append (a b:List (T × Value)):psC (a++b)=psC a++psC b:=by unfold psC;rw [List.flatMap_append]
theorem psC_split (l:List (T × Value)) (i:Nat):(psC l).take (i*4)=psC (l.take i)∧(psC l).drop (i*4)=psC (l.drop i):=by
 induction l generalizing i with
 | nil=>simp [psC]
 | cons x l ih =>
  cases i with
  | zero=>simp [psC]
  | succ i =>
   rw [psC_cons]
   unfold cs
   rw [show (i+1)*4=i*4+1+1+1+1 by omega]
   simp only [List.cons_append,List.nil_append,List.take_succ_cons,List.drop_succ_cons,(ih i).1,(ih i).2]
   exact ⟨rfl,trivial⟩
theorem psC_get {l:List (T × Value)} {i:Nat} {p:T × Value} (h:l[i]?=some p):i*4+4≤(psC l).length∧((psC l).drop (i*4)).take 4=[.int .i64 p.1.k,.int .i64 p.1.f,.int .i64 p.1.v,.hs p.2 p.1.l.length]:=by
 obtain ⟨hi,rfl⟩:=List.getElem?_eq_some_iff.1 h
 refine ⟨by rw [psC_len];omega,?_⟩
 rw [(psC_split l i).2,List.drop_eq_getElem_cons hi,psC_cons]
 rfl
theorem psC_put {l:List (T × Value)} {i:Nat} {p:T × Value} (h:i<l.length):(psC l).take (i*4)++[.int .i64 p.1.k,.int .i64 p.1.f,.int .i64 p.1.v,.hs p.2 p.1.l.length]++(psC l).drop (i*4+4)=psC (l.set i p):=by
 rw [show i*4+4=(i+1)*4 by omega,(psC_split l i).1,(psC_split l (i+1)).2,List.set_eq_take_append_cons_drop,if_pos h,psC_append,psC_cons,← List.append_assoc]
 rfl
theorem cellsK_ps {l:List (T × Value)} {i:Nat} {k f v:Int} {u:Value} {r:List T} {K:List AV→Prop} (h:l[i]?=some (.mk k f v r,u)) (hK:K [.int .i64 k,.int .i64 f,.int .i64 v,.hs u r.length]):cellsK (psC l) (i*4) 4 K :=
 cellsK.of (psC_get h).1 (psC_get h).2 hK
theorem putK_ps {l:List (T × Value)} {i:Nat} {k f v:Int} {u:Value} {n:Nat} {r:List T} {K:List AV→Prop} (h:i<l.length) (hr:r.length=n) (hK:K (psC (l.set i (.mk k f v r,u)))):putK (psC l) (i*4) [.int .i64 k,.int .i64 f,.int .i64 v,.hs u n] K:=by
 subst hr
 exact putK.of (by rw [psC_len];simp;omega) (by rw [← psC_put (p:=(.mk k f v r,u)) h] at hK;exact hK)
def kp (d:Int) (ps:List (T × Value)):List (T × Value):=ps.filter fun p=>!decide (p.1.k=d)
end Pd
section
variable (F:Heap)
theorem qN (x:Pd.T) (A:Value) (d:Int) (b:Addr) (h:F.c (b.add 0) (.int .i64 d)):Qz Tryz.prog 186 [.agg (Pd.cs x A),.hp b 0] [hpB F] fun r m=>r = .bool (decide (x.k=d))∧m=[hpB F]:=by
 refine Qz.fits (K:=fun r m=>r = .bool (decide (x.k=d))∧Qw m [hpB F]) ?_ fun r m' h=>⟨r,_,rfl,h.2,h.1,rfl⟩
 obtain ⟨k,f,v,l⟩:=x
 rw [pd_cs]
 simp only [Pd.T.k]
 refine aB Tryz.func186 rfl (by decide) ?_
 repeat' first|(refine sxZ ?_;try clear hK K)|refine sxW ?_ ?_<;>intro _|(intro K hK _;conv=>whnf)
 all_goals exact ⟨rfl,Qw.pre 1 rfl⟩
theorem mM (x:Pd.T) (A:Value) (d:Int) (b:Addr) (h:F.c (b.add 0) (.int .i64 d)):Qz Tryz.prog 188 [.agg (Pd.cs x A),.hp b 0] [hpB F] fun r m=>r = .bool (decide (x.k=d))∧m=[hpB F]:=by
 refine Qz.fits (K:=fun r m=>r = .bool (decide (x.k=d))∧Qw m [hpB F]) ?_ fun r m' h=>⟨r,_,rfl,h.2,h.1,rfl⟩
 obtain ⟨k,f,v,l⟩:=x
 rw [pd_cs]
 simp only [Pd.T.k]
 refine aB Tryz.func188 rfl (by decide) ?_
 repeat' first|(refine sxZ ?_;try clear hK K)|refine sxW ?_ ?_<;>intro _|(intro K hK _;conv=>whnf)
 all_goals exact ⟨rfl,Qw.pre 1 rfl⟩
theorem iK (q:Pd.T→Bool) (v:Value) (l:List Pd.T) (hv:Pd.Row F v l) (hn:l.length≤4611686018427387904) (g:FuncId) (first captured:List AV)
  (hg:∀ x∈l,∀ A,Pd.Row F A x.l→Qz Tryz.prog g (first++[.agg (Pd.cs x A)]++captured) [hpB F] fun r m=>r = .bool (q x)∧m=[hpB F]) :
  Qz Tryz.prog 199 [.hs v l.length,.fn g first captured] [hpB F] fun r m=>((r = .int .i64 (-1)∧∀ x∈l,q x=false)∨∃ j:Nat,r = .int .i64 j∧j<l.length∧(∀ x,l[j]?=some x→q x=true)∧∀ x∈l.take j,q x=false)∧m=[hpB F]:=by
 have hok:=hv.ok
 refine aB Tryz.func199 rfl (by decide) ?_
 repeat' first|(refine sxZ ?_;try clear hK K)|refine sxW ?_ ?_<;>intro _|(intro K hK _;conv=>whnf)
 refine aE (α:=Nat) (fun k=>k≤l.length∧∀ x∈l.take k,q x=false) (fun k=>[.k,.k,.k,.k,.d,.d,.k,.k,.set (.int .i64 k),.d,.d,.d,.d,.d,.d,.d,.d,.d,.d]) (fun _=>[]) (fun k=>l.length - k) 0 ⟨Nat.zero_le _,fun x hx=>by simp at hx⟩ ?_ (Qw.eq rfl) ?_
 ·exact aD
 (intro k ⟨hk,hgone⟩;intro K hK;(conv=>whnf);refine hK _ _ ?_;clear hK K)
 by_cases hlt:k<l.length
 ·have hx:l[k]?=some l[k]:=List.getElem?_eq_getElem hlt
  obtain ⟨A,cap,hA,c0,c1,c2,c3⟩:=hv.get hx
  have hmem:=List.mem_of_getElem? hx
  have hnx:l.take (k+1)=l.take k++[l[k]]:=by rw [List.take_add_one,hx];rfl
  have c:=hg _ hmem _ hA
  generalize l[k]=x at *
  simp only [Pd.cs] at c
  cases hq:q x with
  | false =>
   rw [hq] at c
   repeat' first|(intro K hK;(with_reducible refine gC ?_);refine cS [0] c ?_)|(refine sxZ ?_;try clear hK K)|refine sxW ?_ ?_<;>intro _|(intro K hK _;conv=>whnf)
   refine aC (k+1) ⟨hlt,fun y hy=>?_⟩ (by omega) ?_ (Qw.eq rfl)
   ·rw [hnx] at hy
    rcases List.mem_append.1 hy with hy | hy
    ·exact hgone y hy
    ·rw [List.mem_singleton.1 hy];exact hq
   ·exact aD
  | true =>
   rw [hq] at c
   repeat' first|(intro K hK;(with_reducible refine gC ?_);refine cS [0] c ?_)|(refine sxZ ?_;try clear hK K)|refine sxW ?_ ?_<;>intro _|(intro K hK _;conv=>whnf)
   exact ⟨.inr ⟨k,rfl,hlt,fun y hy=>by rw [hx] at hy;injection hy with hy;rw [← hy];exact hq,hgone⟩,rfl⟩
 ·have hkl:k=l.length:=by omega
  subst hkl
  rw [List.take_length] at hgone
  repeat' first|(refine sxZ ?_;try clear hK K)|refine sxW ?_ ?_<;>intro _|(intro K hK _;conv=>whnf)
  exact ⟨.inl ⟨rfl,hgone⟩,rfl⟩
end
theorem jm {F:Heap} {f:FuncId} {w:Value} {ps:List (Pd.T × Value)} {t ti:TypeId} {b:Addr} {d:Int} {g:FuncId} {args0:List AV} {m0:List Blk} {K0:AV→List Blk→Prop} {K:AV→Prop} (h0:Qz Tryz.prog f args0 m0 K0)
  (hall:∀ p∈ps,Pd.Row F p.2 p.1.l)
  (h:∀ G,F.le G→Pd.Row G w (ps.map (·.1))→G.c (b.add 0) (.int .i64 d)→Qz Tryz.prog f [.hs w (ps.map (·.1)).length,.fn g [] [.hp b 0]] [hpB G] fun r m=>K r∧m=[hpB G]) :
  Qz Tryz.prog f [.sl 1 w ps.length,.fn g [] [.ptr 2 b 0]] [hpB F,⟨addrOf w,Pd.psC ps,.row w t 4 ps.length⟩,⟨b,[.int .i64 d],.var ti⟩] fun r m=>K r∧m=[hpB F,⟨addrOf w,Pd.psC ps,.row w t 4 ps.length⟩,⟨b,[.int .i64 d],.var ti⟩]:=by
 refine Qz.when h0 fun ⟨W,hw⟩=>?_
 have hok:=(hw.row (List.mem_cons_of_mem _ (List.mem_cons_self ..))).1
 have hrow:=aM (F:=F) (sz:=4) (enc:=Pd.psV) hok (Pd.psC_den ps) (fun x _=>rfl)
 have hr2:=Pd.row_of hrow fun p hp=>Pd.Row.mono addF.old (hall p hp)
 have hnew:=addF.new (F:=addF F (addrOf w) (denL (Pd.psC ps))) (a:=b) (vs:=denL [.int .i64 d])
 obtain ⟨c0,_⟩:=hnew
 refine Qz.keep (h _ (addF.old.trans addF.old) (Pd.Row.mono addF.old hr2) c0) ?_ ((Qw.freeze (m:=[⟨b,[.int .i64 d],.var ti⟩])).trans (Qw.freezeVar (m:=[]))) rfl fun r mL' h=>⟨r,rfl,h.1,rfl⟩
 rw [List.length_map]
 rfl
theorem kR {α:Type} (q:α→Bool):∀ l:List α,(∀ x∈l,q x=false)∨∃ j,j<l.length∧(∀ x,l[j]?=some x→q x=true)∧∀ x∈l.take j,q x=false
 | []=>.inl (by simp)
 | x::l=>by
  cases hx:q x with
  | true=>exact .inr ⟨0,by simp,fun y hy=>by simp at hy;rw [← hy];exact hx,by simp⟩
  | false =>
   rcases kR q l with h | ⟨j,h1,h2,h3⟩
   ·exact .inl fun y hy=>(List.mem_cons.1 hy).elim (fun e=>e ▸ hx) (h y)
   ·exact .inr ⟨j+1,by simp;omega,fun y hy=>h2 y (by simpa using hy),fun y hy=>by rw [List.take_succ_cons] at hy;exact (List.mem_cons.1 hy).elim (fun e=>e ▸ hx) (h3 y)⟩
theorem lh {α:Type} {q:α→Bool} {l:List α} {j k:Nat} (h1:∀ x,l[j]?=some x→q x=true) (h2:∀ x∈l.take j,q x=false) (hj:j<l.length) (h3:∀ x,l[k]?=some x→q x=true) (h4:∀ x∈l.take k,q x=false) (hk:k<l.length):j=k:=by
 have key:∀ {j k:Nat},(∀ x,l[j]?=some x→q x=true)→j<l.length→(∀ x∈l.take k,q x=false)→¬ j<k:=fun {j k} h1 hj h4 hlt=>by
  have e:l[j]?=some l[j]:=List.getElem?_eq_getElem hj
  have hm:l[j]∈l.take k:=List.mem_of_getElem? (i:=j) (by rw [List.getElem?_take,if_pos hlt];exact e)
  have:=h1 _ e
  rw [h4 _ hm] at this
  cases this
 have:=key h1 hj h4
 have:=key h3 hk h2
 omega
namespace Pd
theorem kp_append (d:Int) (a b:List (T × Value)):kp d (a++b)=kp d a++kp d b:=by unfold kp;rw [List.filter_append]
theorem kp_all {d:Int} {ps:List (T × Value)} (h:∀ p∈ps,decide (p.1.k=d)=false):kp d ps=ps:=by
 unfold kp
 exact List.filter_eq_self.2 fun p hp=>by rw [h p hp];rfl
theorem kp_len (d:Int) (ps:List (T × Value)):(kp d ps).length≤ps.length:=List.length_filter_le _ _
theorem kp_next (d:Int) {ps:List (T × Value)} {j:Nat} {p:T × Value} (h:ps[j]?=some p):kp d (ps.take (j+1))=kp d (ps.take j)++(if p.1.k=d then [] else [p]):=by
 rw [List.take_add_one,h,kp_append]
 congr 1
 show kp d [p]=_
 unfold kp
 by_cases hk:p.1.k=d<;>simp [hk]
end Pd
theorem lj (F:Heap) (w:Value) (ps:List (Pd.T × Value)) (b:Addr) (d:Int) (hn:ps.length≤1000000000000) (hall:∀ p∈ps,Pd.Row F p.2 p.1.l) :
  Qz Tryz.prog 187 [.sl 1 w ps.length,.fn 188 [] [.ptr 2 b 0]] [hpB F,⟨addrOf w,Pd.psC ps,.row w 39 4 ps.length⟩,⟨b,[.int .i64 d],.var 3⟩] fun r m =>
   (r = .sl 1 w ps.length∧Pd.kp d ps=ps∧m=[hpB F,⟨addrOf w,Pd.psC ps,.row w 39 4 ps.length⟩,⟨b,[.int .i64 d],.var 3⟩]) ∨
   ∃ junk,(Pd.kp d ps).length≤ps.length∧r = .view 1 w 4 0 (Pd.kp d ps).length∧Qw m [hpB F,⟨addrOf w,Pd.psC (Pd.kp d ps)++junk,.row w 39 4 ps.length⟩,⟨b,[.int .i64 d],.var 3⟩]:=by
 have ci0:=jm (K:=fun r=>(r = .int .i64 (-1)∧∀ x∈ps.map (·.1),decide (x.k=d)=false)∨∃ j:Nat,r = .int .i64 j∧j<(ps.map (·.1)).length∧(∀ x,(ps.map (·.1))[j]?=some x→decide (x.k=d)=true)∧∀ x∈(ps.map (·.1)).take j,decide (x.k=d)=false) (w:=w) (t:=39) (ti:=3) (b:=b) (d:=d) (g:=188) (iK F (fun _=>true) (.slice none 0 0) [] ⟨SlOk.nil,fun k x hx=>by simp at hx⟩ (by simp) 0 [] [] fun x hx=>by simp at hx) hall
  fun G hG hw hb=>iK G (fun x=>decide (x.k=d)) w _ hw (by rw [List.length_map];omega) 188 [] [.hp b 0] fun x _ A _=>mM G x A d b hb
 have cd:∀ x∈ps,∀ t,decide (x.1.k=d)=t→Qz Tryz.prog 188 [.agg (Pd.cs x.1 x.2),.ptr 1 b 0] [hpB F,⟨b,[.int .i64 d],.var 3⟩] fun r m=>r = .bool t∧m=[hpB F,⟨b,[.int .i64 d],.var 3⟩]:=fun x hx t ht=>by
  subst ht
  have hnew:=addF.new (F:=F) (a:=b) (vs:=denL [.int .i64 d])
  obtain ⟨c0,_⟩:=hnew
  exact Qz.keep (mM (addF F b (denL [.int .i64 d])) x.1 x.2 d b c0) rfl (Qw.freezeVar (m:=[])) rfl fun r mL' h=>⟨r,rfl,h.1,rfl⟩
 have hkl:=Pd.kp_len d ps
 have hlc:=Pd.psC_len ps
 rcases kR (fun p:Pd.T × Value=>decide (p.1.k=d)) ps with hno | ⟨j,hj,hyes,hno⟩
 ·have ci:=ci0.mono (K':=fun r m=>r = .int .i64 (-1)∧m=[hpB F,⟨addrOf w,Pd.psC ps,.row w 39 4 ps.length⟩,⟨b,[.int .i64 d],.var 3⟩]) fun r m h=>by
   obtain ⟨h0,h9⟩:=h
   refine ⟨?_,h9⟩
   rcases h0 with ⟨h1,_⟩ | ⟨k,_,hk,h2,_⟩
   ·exact h1
   ·exfalso
    rw [List.length_map] at hk
    have:=h2 _ (by rw [List.getElem?_map,List.getElem?_eq_getElem hk];rfl)
    rw [hno _ (List.getElem_mem hk)] at this
    cases this
  clear ci0
  rw [Pd.kp_all hno]
  refine aB Tryz.func187 rfl (by decide) ?_
  repeat' first|(intro K hK;(with_reducible refine gC ?_);(refine cN [0,1,2] ci ?_;rintro _ _ ⟨rfl,rfl⟩;refine cR ?_))|(refine sxZ ?_;try clear hK K)|refine sxW ?_ ?_<;>intro _|(intro K hK _;conv=>whnf)
  all_goals exact .inl ⟨rfl,rfl,rfl⟩
 ·have ci:=ci0.mono (K':=fun r m=>r = .int .i64 (j:Int)∧m=[hpB F,⟨addrOf w,Pd.psC ps,.row w 39 4 ps.length⟩,⟨b,[.int .i64 d],.var 3⟩]) fun r m h=>by
   obtain ⟨h0,h9⟩:=h
   refine ⟨?_,h9⟩
   rcases h0 with ⟨_,h1⟩ | ⟨k,rfl,hk,h2,h3⟩
   ·exfalso
    have:=h1 _ (List.mem_map_of_mem (List.getElem_mem hj))
    rw [hyes _ (List.getElem?_eq_getElem hj)] at this
    cases this
   ·rw [List.length_map] at hk
    rw [lh hyes hno hj (fun x hx=>h2 x.1 (by rw [List.getElem?_map,hx];rfl)) (fun x hx=>h3 x.1 (by rw [← List.map_take];exact List.mem_map_of_mem hx)) hk]
  clear ci0
  refine aB Tryz.func187 rfl (by decide) ?_
  repeat' first|(intro K hK;(with_reducible refine gC ?_);(refine cN [0,1,2] ci ?_;rintro _ _ ⟨rfl,rfl⟩;refine cR ?_))|(refine sxZ ?_;try clear hK K)|refine sxW ?_ ?_<;>intro _|(intro K hK _;conv=>whnf)
  have hk0:Pd.kp d (ps.take (j+1))=ps.take j:=by
   rw [Pd.kp_next d (List.getElem?_eq_getElem hj),if_pos (of_decide_eq_true (hyes _ (List.getElem?_eq_getElem hj))),List.append_nil]
   exact Pd.kp_all hno
  refine aE (α:=Nat × Nat × List (Pd.T × Value)) (fun (i,k,qs)=>(i<k∧k≤ps.length∧qs.length=ps.length)∧qs.take i=Pd.kp d (ps.take k)∧i=(Pd.kp d (ps.take k)).length∧qs.drop k=ps.drop k) (fun (i,k,qs)=>[.k,.k,.k,.k,.k,.set (.int .i64 i),.set (.int .i64 k),.d,.k,.k,.k,.k,.k,.k,.k,.k,.d,.d,.d,.d,.d,.d,.d,.d,.d,.d,.d,.d,.d,.d,.d,.d,.d,.d,.d,.d,.k,.k,.k,.k,.k,.k])
   (fun (i,k,qs)=>[.k,.set ⟨addrOf w,Pd.psC qs,.row w 39 4 ps.length⟩]) (fun (i,k,qs)=>ps.length - k) (j,j+1,ps) ⟨⟨by omega,hj,rfl⟩,hk0.symm,by rw [hk0,List.length_take];omega,rfl⟩ ?_ (Qw.eq rfl) ?_
  ·exact aD
  (intro ⟨i,k,qs⟩ ⟨⟨hik,hkn,hql⟩,htk,hil,hdr⟩;intro K hK;(conv=>whnf);refine hK _ _ ?_;clear hK K)
  dsimp only
  have hlq:=Pd.psC_len qs
  by_cases hlt:k<ps.length
  ·have hp:ps[k]?=some ps[k]:=List.getElem?_eq_getElem hlt
   have hq:qs[k]?=some ps[k]:=by
    have:=congrArg (fun l=>l[0]?) hdr
    simp only [List.getElem?_drop,Nat.add_zero] at this
    rw [this,hp]
   have hny:ps[k].1.k=d→Pd.kp d (ps.take (k+1))=Pd.kp d (ps.take k):=fun h=>by rw [Pd.kp_next d hp,if_pos h,List.append_nil]
   have hnn:¬ ps[k].1.k=d→Pd.kp d (ps.take (k+1))=Pd.kp d (ps.take k)++[ps[k]]:=fun h=>by rw [Pd.kp_next d hp,if_neg h]
   have hd1:qs.drop (k+1)=ps.drop (k+1):=by
    rw [← List.drop_drop,← List.drop_drop,hdr]
   have c:=cd _ (List.getElem_mem hlt)
   clear cd
   generalize ps[k]=x at *
   obtain ⟨⟨xk,xf,xv,xl⟩,u⟩:=x
   simp only [pd_cs,Pd.T.k] at c hny hnn
   by_cases hxd:xk=d
   ·have c:=c true (decide_eq_true hxd)
    have hnx:=hny hxd
    clear hnn hny
    repeat' first|((try intro K hK);(with_reducible refine gC ?_);refine cS [0,2] c ?_)|((try intro K hK);(refine Pd.cellsK_ps hq ?_;conv=>whnf))|(refine sxZ ?_;try clear hK K)|refine sxW ?_ ?_<;>intro _|(intro K hK _;conv=>whnf)|(intro _;conv=>whnf)
    refine aC (i,k+1,qs) ⟨⟨(show i<k+1 by omega),hlt,hql⟩,by rw [hnx];exact htk,by rw [hnx];exact hil,hd1⟩ (show ps.length - (k+1)<ps.length - k by omega) ?_ (Qw.pre 3 rfl)
    exact aD
   ·have c:=c false (decide_eq_false hxd)
    have hnx:=hnn hxd
    clear hnn hny
    repeat' first|((try intro K hK);(with_reducible refine gC ?_);refine cS [0,2] c ?_)|((try intro K hK);(refine Pd.cellsK_ps hq ?_;conv=>whnf))|((try intro K hK);(refine Pd.putK_ps (by omega) rfl ?_;conv=>whnf))|(refine sxZ ?_;try clear hK K)|refine sxW ?_ ?_<;>intro _|(intro K hK _;conv=>whnf)|(intro _;conv=>whnf)
    refine aC (i+1,k+1,qs.set i (.mk xk xf xv xl,u)) ⟨⟨(show i+1<k+1 by omega),hlt,by rw [List.length_set];exact hql⟩,?_,by rw [hnx,List.length_append,← hil];rfl,?_⟩ (show ps.length - (k+1)<ps.length - k by omega) ?_ (Qw.pre 3 rfl)
    ·rw [hnx,← htk,List.take_add_one,List.getElem?_set_self (by omega),List.take_set_of_le (Nat.le_refl _)]
     rfl
    ·rw [List.drop_set_of_lt (show i<k+1 by omega)];exact hd1
    ·exact aD
  ·obtain rfl:k=ps.length:=by omega
   rw [List.take_length] at htk hil
   have e1:=(Pd.psC_split qs i).1
   rw [htk] at e1
   subst hil
   repeat' first|((try intro K hK);(refine NMap.clear (j:=1) rfl rfl rfl rfl (by decide) rfl (by omega) (by omega) ?_;conv=>whnf))|(refine sxZ ?_;try clear hK K)|refine sxW ?_ ?_<;>intro _|(intro K hK _;conv=>whnf)|(intro _;conv=>whnf)
   all_goals exact .inr ⟨_,hkl,rfl,Qw.eq (by rw [e1])⟩
theorem jB (F:Heap) (w:Value) (ps:List (Pd.T × Value)) (b:Addr) (d:Int) (hn:ps.length≤1000000000000) (hall:∀ p∈ps,Pd.Row F p.2 p.1.l) :
  Qz Tryz.prog 187 [.sl 1 w ps.length,.fn 188 [] [.ptr 2 b 0]] [hpB F,⟨addrOf w,Pd.psC ps,.row w 39 4 ps.length⟩,⟨b,[.int .i64 d],.var 3⟩] fun r m =>
   r = .sl 1 (cutSl w 4 0 (Pd.kp d ps).length) (Pd.kp d ps).length∧m=[hpB F,⟨addrOf (cutSl w 4 0 (Pd.kp d ps).length),Pd.psC (Pd.kp d ps),.row (cutSl w 4 0 (Pd.kp d ps).length) 39 4 (Pd.kp d ps).length⟩,⟨b,[.int .i64 d],.var 3⟩]:=by
 refine Go.Sx.Qz.know (lj F w ps b d hn hall) fun r m' hk ⟨W,hw⟩=>?_
 rcases hk with ⟨rfl,hkp,rfl⟩ | ⟨junk,hle,rfl,hm⟩
 ·have hh:=hw.holds ⟨addrOf w,Pd.psC ps,.row w 39 4 ps.length⟩ (by simp)
  unfold Blk.holds at hh
  obtain ⟨_,_,_,_,h7⟩:=jC hh.1 (Nat.le_refl _)
  refine ⟨.sl 1 w ps.length,_,rfl,Qw.eq rfl,?_,?_⟩
  ·rw [hkp];simp only [h7]
  ·rw [hkp];simp only [h7]
 ·have hh:=(hm W hw).1.holds ⟨addrOf w,Pd.psC (Pd.kp d ps)++junk,.row w 39 4 ps.length⟩ (by simp)
  unfold Blk.holds at hh
  obtain ⟨_,_,_,h6,_⟩:=jC hh.1 hle
  refine ⟨.sl 1 (cutSl w 4 0 (Pd.kp d ps).length) (Pd.kp d ps).length,_,?_,hm.trans (Qw.cutRow hle),rfl,?_⟩
  ·exact h6
  ·rw [show (Pd.psC (Pd.kp d ps)++junk).take ((Pd.kp d ps).length*4)=Pd.psC (Pd.kp d ps) by rw [← Pd.psC_len (Pd.kp d ps)];exact List.take_left ..]
theorem nV {k f v out d:Int} {ps:List (Pd.T × Value)} (h:¬ (ps.map (·.1)).any (fun x=>decide (x.k=d))=true):Pd.fold k f v out d (ps.map (·.1))=match (Pd.kp out ps).map (·.1) with
  | []=>.mk out 0 0 []
  | [x]=>x
  | x::y::r=>.mk k f v (x::y::r):=by
 unfold Pd.fold
 rw [if_neg h]
 have:(ps.map (·.1)).filter (fun x=>!decide (x.k=out))=(Pd.kp out ps).map (·.1):=by
  unfold Pd.kp
  rw [List.filter_map]
  rfl
 rw [this]
 rfl
theorem o5 (F:Heap) (k f v out d:Int) (w:Value) (ps:List (Pd.T × Value)) (hn:ps.length≤1000000000000) (hall:∀ p∈ps,Pd.Row F p.2 p.1.l) :
  Qz Tryz.prog 146 [.agg [.int .i64 k,.int .i64 f,.int .i64 v,.sl 1 w ps.length],.int .i64 out,.int .i64 d] [hpB F,⟨addrOf w,Pd.psC ps,.row w 39 4 ps.length⟩] fun r m=>Pd.Out F 39 (Pd.fold k f v out d (ps.map (·.1))) r m:=by
 have cc:=fun b=>jm (K:=fun r=>r = .bool ((ps.map (·.1)).any fun x=>decide (x.k=d))) (w:=w) (t:=39) (ti:=3) (b:=b) (d:=d) (g:=186) (bX F (fun _=>true) (.slice none 0 0) [] ⟨SlOk.nil,fun k x hx=>by simp at hx⟩ (by simp) 0 [] [] fun x hx=>by simp at hx) hall
  fun G hG hw hb=>bX G (fun x=>decide (x.k=d)) w _ hw (by rw [List.length_map];omega) 186 [] [.hp b 0] fun x _ A _=>qN G x A d b hb
 have cd:=fun b=>jB F w ps b out hn hall
 refine aB Tryz.func146 rfl (by decide) ?_
 by_cases hany:((ps.map (·.1)).any fun x=>decide (x.k=d))=true
 ·rw [show Pd.fold k f v out d (ps.map (·.1)) = .mk d 0 0 [] by unfold Pd.fold;rw [if_pos hany]]
  rw [hany] at cc
  repeat' first|(intro K hK;(with_reducible refine gC ?_);(refine cN [0,1,4] (cc _) ?_;rintro _ _ ⟨rfl,rfl⟩;refine cR ?_))|(refine sxZ ?_;try clear hK K)|refine sxW ?_ ?_<;>intro _|(intro K hK _;conv=>whnf)
  all_goals exact .inr ⟨F,.slice none 0 0,F.le_refl,⟨SlOk.nil,fun k x hx=>by simp [Pd.T.l] at hx⟩,rfl,Qw.pre 1 rfl⟩
 ·rw [nV hany]
  rw [show ((ps.map (·.1)).any fun x=>decide (x.k=d))=false by simpa using hany] at cc
  have hall2:∀ p∈Pd.kp out ps,Pd.Row F p.2 p.1.l:=fun p hp=>hall p (List.mem_filter.1 hp).1
  have hkl:=Pd.kp_len out ps
  have hlc:=Pd.psC_len (Pd.kp out ps)
  generalize Pd.kp out ps=ks at *
  generalize cutSl w 4 0 ks.length=w' at *
  clear hany
  match ks,hall2 with
  | [],_ =>
   repeat' first|(intro K hK;(with_reducible refine gC ?_);first|(refine cN [0,1,4] (cc _) ?_;rintro _ _ ⟨rfl,rfl⟩;refine cR ?_)|(refine cN [0,1,3] (cd _) ?_;rintro _ _ ⟨rfl,rfl⟩;refine cR ?_))|(refine sxZ ?_;try clear hK K)|refine sxW ?_ ?_<;>intro _|(intro K hK _;conv=>whnf)
   all_goals exact .inr ⟨F,.slice none 0 0,F.le_refl,⟨SlOk.nil,fun k x hx=>by simp [Pd.T.l] at hx⟩,rfl,Qw.pre 1 rfl⟩
  | [(⟨xk,xf,xv,xl⟩,u)],hall2 =>
   have hq:[((⟨xk,xf,xv,xl⟩:Pd.T),u)][0]?=some (⟨xk,xf,xv,xl⟩,u):=rfl
   repeat' first|((try intro K hK);(with_reducible refine gC ?_);first|(refine cN [0,1,4] (cc _) ?_;rintro _ _ ⟨rfl,rfl⟩;refine cR ?_)|(refine cN [0,1,3] (cd _) ?_;rintro _ _ ⟨rfl,rfl⟩;refine cR ?_))|((try intro K hK);(refine Pd.cellsK_ps hq ?_;conv=>whnf))|(refine sxZ ?_;try clear hK K)|refine sxW ?_ ?_<;>intro _|(intro K hK _;conv=>whnf)|(intro _;conv=>whnf)
   all_goals exact .inr ⟨F,u,F.le_refl,hall2 (⟨xk,xf,xv,xl⟩,u) (by simp),rfl,Qw.pre 1 rfl⟩
  | x::y::r,hall2 =>
   have hlen:(x::y::r).length=r.length+2:=rfl
   generalize hks:x::y::r=ks at *
   repeat' first|(intro K hK;(with_reducible refine gC ?_);first|(refine cN [0,1,4] (cc _) ?_;rintro _ _ ⟨rfl,rfl⟩;refine cR ?_)|(refine cN [0,1,3] (cd _) ?_;rintro _ _ ⟨rfl,rfl⟩;refine cR ?_))|(refine sxZ ?_;try clear hK K)|refine sxW ?_ ?_<;>intro _|(intro K hK _;conv=>whnf)
   all_goals
    refine .inl ⟨F,w',ks,F.le_refl,?_,hall2,?_,Qw.pick [0,1] (by decide) rfl⟩
    ·rw [← hks];rfl
    ·rw [← hks];rfl
end Go.Proofs.YtmehinfgdcmmjaaGreatDoor
