import Derived.Test.YtmehinfgdcmmjaaGreatJ10
import Derived.Test.YtmehinfgdcmmjaaGreatJ2
import Derived.Test.YtmehinfgdcmmjaaGreatJ19
namespace Go.Proofs.YtmehinfgdcmmjaaGreat
open Go.Sx
set_option maxRecDepth 20000
set_option maxHeartbeats 4000000
set_option linter.unusedVariables false
namespace Pd
def Out (F:Heap) (t:TypeId) (X:T) (v:AV) (m:List Blk):Prop :=
 Got F t X v m∨∃ G u,F.le G∧Row G u X.l∧v.den=(AV.agg (cs X u)).den∧MemFits m [hpB G]
theorem out_know {f:FuncId} {args:List AV} {F:Heap} {t:TypeId} {m:List Blk} {X:T} (h:NCall Tryz.prog f args m fun v m'=>Out F t X v m') :
  NCall Tryz.prog f args m fun v m'=>Lays F X v m':=by
 refine Go.Sx.NCall.know h fun r m' hq ⟨w,hw⟩=>?_
 rcases hq with ⟨G,u,ps,hle,hmap,hall,hr,hm⟩ | ⟨G,u,hle,hrow,hr,hm⟩
 ·have hok:=((hm w hw).1.row (List.mem_cons_of_mem _ (List.mem_cons_self ..))).1
  have hrow:=aJ (F:=G) (sz:=4) (enc:=psV) hok (psC_den ps) (fun x _=>rfl)
  refine ⟨_,_,hr.symm,hm.trans (MemFits.freeze (m:=[])),_,u,hle.trans addF.old,?_,rfl,rfl⟩
  rw [← hmap]
  exact row_of hrow fun p hp=>Row.mono addF.old (hall p hp)
 ·exact ⟨_,_,hr.symm,hm,G,u,hle,hrow,rfl,rfl⟩
theorem fits_mk {k f v:Int} {l:List T} (h:fits (.mk k f v l)=true):(k=3∧(0≤f∧f≤5)∧(0≤v∧v≤top f)∧l.length=0∨(k=1∨k=2)∧f=0∧v=0∧l.length=0∨k=4∧f=0∧v=0∧l.length=1∨(k=5∨k=6)∧f=0∧v=0∧2≤l.length∧l.length≤8)∧∀ x∈l,fits x=true:=by
 rw [fits,Bool.and_eq_true,fitsL_iff] at h
 have h1:=h.1
 unfold shape at h1
 rw [decide_eq_true_eq] at h1
 exact ⟨h1,h.2⟩
theorem size_mk (k f v:Int) (l:List T):size (.mk k f v l)=1+sizeL l:=by rw [size]
end Pd
end Go.Proofs.YtmehinfgdcmmjaaGreat
namespace Go.Sx
open Go.RowKit
theorem jY {w:World} {v:Value} {t:TypeId} {sz n:Nat} {xs:List Value} (h:w.ownsRow 0 t sz v n xs) {k:Nat} (hk:k≤n) :
  w.ownsRow 0 t sz (cutSl v sz 0 k) k (xs.take (k*sz))∧addrOf (cutSl v sz 0 k)=addrOf v∧(cutSl v sz 0 k).ownBlock=v.ownBlock∧aw (cutSl v sz 0 k)=cutSl v sz 0 k∧cutSl v sz 0 n=v:=by
 obtain ⟨h5,h6⟩:=h
 have hle:k*sz≤n*sz:=Nat.mul_le_mul_right _ hk
 rcases h6 with ⟨rfl,rfl⟩ | ⟨g,cap,cur,rfl,hbg,hg,hc1,hc2,hc3,hc4⟩
 ·obtain rfl:k=0:=by omega
  exact ⟨⟨by simp,.inl ⟨rfl,rfl⟩⟩,rfl,rfl,rfl,rfl⟩
 ·have e:∀ k,cutSl (.slice (some ⟨g,0,none⟩) n cap) sz 0 k = .slice (some ⟨g,0,none⟩) k cap:=fun k=>by
   unfold cutSl aw
   dsimp only
   have:(⟨g,0,none⟩:Addr).add 0=⟨g,0,none⟩:=jA g 0
   split
   ·simp
   ·simp [this]
  rw [e,e]
  refine ⟨⟨by rw [List.length_take];omega,.inr ⟨g,cap,cur,rfl,hbg,hg,by omega,hc2,hc3,?_⟩⟩,rfl,rfl,rfl,rfl⟩
  rw [← hc4,List.take_take,Nat.min_eq_left hle]
theorem MemFits.cutRow {F:Heap} {a:Addr} {cs:List AV} {v:Value} {t:TypeId} {sz n k:Nat} {m:List Blk} (hk:k≤n) :
  MemFits (hpB F::⟨a,cs,.row v t sz n⟩::m) (hpB F::⟨addrOf (cutSl v sz 0 k),cs.take (k*sz),.row (cutSl v sz 0 k) t sz k⟩::m):=fun w hm=>by
 have hh:=hm.holds ⟨a,cs,.row v t sz n⟩ (by simp)
 unfold Blk.holds at hh
 obtain ⟨h1,h2⟩:=hh
 obtain ⟨h3,h4,h5,h6,h7⟩:=jY h1 hk
 have hbn:(⟨addrOf (cutSl v sz 0 k),cs.take (k*sz),.row (cutSl v sz 0 k) t sz k⟩:Blk).bn=(⟨a,cs,.row v t sz n⟩:Blk).bn:=h5
 have hset:(hpB F::⟨a,cs,.row v t sz n⟩::m).set 1 ⟨addrOf (cutSl v sz 0 k),cs.take (k*sz),.row (cutSl v sz 0 k) t sz k⟩=hpB F::⟨addrOf (cutSl v sz 0 k),cs.take (k*sz),.row (cutSl v sz 0 k) t sz k⟩::m:=rfl
 rw [← hset]
 refine ⟨hm.set (i:=1) (Nat.le_refl _) rfl rfl (fun _ _ _=>rfl) ?_ rfl (.inr (.inl hbn)),fun b hb=>?_,fun b hb=>?_⟩
 ·unfold Blk.holds
  dsimp only
  refine ⟨?_,rfl⟩
  have:denL (cs.take (k*sz))=(denL cs).take (k*sz):=by simp [bB]
  rw [this]
  exact h3
 ·rcases mM hb with h | h
  ·exact h
  ·exact ⟨_,List.mem_cons_of_mem _ (List.mem_cons_self ..),rfl,by show (⟨a,cs,.row v t sz n⟩:Blk).bn=some b;rw [← hbn];exact h⟩
 ·rcases iu hb with h | h
  ·exact h
  ·exact ⟨_,List.mem_cons_of_mem _ (List.mem_cons_self ..),by show (⟨a,cs,.row v t sz n⟩:Blk).bn=some b;rw [← hbn];exact h⟩
end Go.Sx
namespace Go.Proofs.YtmehinfgdcmmjaaGreat
open Go.Sx
set_option maxRecDepth 20000
set_option linter.unusedSimpArgs false
set_option linter.unusedVariables false
set_option maxHeartbeats 4000000
namespace Pd
theorem psC_cons (p:T × Value) (ps:List (T × Value)):psC (p::ps)=cs p.1 p.2++psC ps:=rfl
theorem psC_append (a b:List (T × Value)):psC (a++b)=psC a++psC b:=by unfold psC;rw [List.flatMap_append]
theorem psC_split (l:List (T × Value)) (i:Nat):(psC l).take (i*4)=psC (l.take i)∧(psC l).drop (i*4)=psC (l.drop i):=by
 induction l generalizing i with
 | nil=>simp [psC]
 | cons x l ih =>
  cases i with
  | zero=>simp [psC]
  | succ i =>
   rw [psC_cons]
   unfold cs
   rw [show (i+1)*4=i*4+1+1+1+1 by omega]
   simp only [List.cons_append,List.nil_append,List.take_succ_cons,List.drop_succ_cons,(ih i).1,(ih i).2]
   exact ⟨rfl,trivial⟩
theorem psC_get {l:List (T × Value)} {i:Nat} {p:T × Value} (h:l[i]?=some p):i*4+4≤(psC l).length∧((psC l).drop (i*4)).take 4=[.int .i64 p.1.k,.int .i64 p.1.f,.int .i64 p.1.v,.hs p.2 p.1.l.length]:=by
 obtain ⟨hi,rfl⟩:=List.getElem?_eq_some_iff.1 h
 refine ⟨by rw [psC_len];omega,?_⟩
 rw [(psC_split l i).2,List.drop_eq_getElem_cons hi,psC_cons]
 rfl
theorem psC_put {l:List (T × Value)} {i:Nat} {p:T × Value} (h:i<l.length):(psC l).take (i*4)++[.int .i64 p.1.k,.int .i64 p.1.f,.int .i64 p.1.v,.hs p.2 p.1.l.length]++(psC l).drop (i*4+4)=psC (l.set i p):=by
 rw [show i*4+4=(i+1)*4 by omega,(psC_split l i).1,(psC_split l (i+1)).2,List.set_eq_take_append_cons_drop,if_pos h,psC_append,psC_cons,← List.append_assoc]
 rfl
theorem cellsK_ps {l:List (T × Value)} {i:Nat} {k f v:Int} {u:Value} {r:List T} {K:List AV→Prop} (h:l[i]?=some (.mk k f v r,u)) (hK:K [.int .i64 k,.int .i64 f,.int .i64 v,.hs u r.length]):cellsK (psC l) (i*4) 4 K :=
 cellsK.of (psC_get h).1 (psC_get h).2 hK
theorem putK_ps {l:List (T × Value)} {i:Nat} {k f v:Int} {u:Value} {n:Nat} {r:List T} {K:List AV→Prop} (h:i<l.length) (hr:r.length=n) (hK:K (psC (l.set i (.mk k f v r,u)))):putK (psC l) (i*4) [.int .i64 k,.int .i64 f,.int .i64 v,.hs u n] K:=by
 subst hr
 exact putK.of (by rw [psC_len];simp;omega) (by rw [← psC_put (p:=(.mk k f v r,u)) h] at hK;exact hK)
def kp (d:Int) (ps:List (T × Value)):List (T × Value):=ps.filter fun p=>!decide (p.1.k=d)
end Pd
section
variable (F:Heap)
theorem qg (x:Pd.T) (A:Value) (d:Int) (b:Addr) (h:F.c (b.add 0) (.int .i64 d)):NCall Tryz.prog 174 [.agg (Pd.cs x A),.hp b 0] [hpB F] fun r m=>r = .bool (decide (x.k=d))∧m=[hpB F]:=by
 refine NCall.fits (K:=fun r m=>r = .bool (decide (x.k=d))∧MemFits m [hpB F]) ?_ fun r m' h=>⟨r,_,rfl,h.2,h.1,rfl⟩
 obtain ⟨k,f,v,l⟩:=x
 rw [ab]
 simp only [Pd.T.k]
 refine aA Tryz.func174 rfl (by decide) ?_
 repeat' first|(refine sxZ ?_;try clear hK K)|refine sxW ?_ ?_<;>intro _|(intro K hK _;conv=>whnf)
 all_goals exact ⟨rfl,MemFits.pre 1 rfl⟩
theorem md (x:Pd.T) (A:Value) (d:Int) (b:Addr) (h:F.c (b.add 0) (.int .i64 d)):NCall Tryz.prog 176 [.agg (Pd.cs x A),.hp b 0] [hpB F] fun r m=>r = .bool (decide (x.k=d))∧m=[hpB F]:=by
 refine NCall.fits (K:=fun r m=>r = .bool (decide (x.k=d))∧MemFits m [hpB F]) ?_ fun r m' h=>⟨r,_,rfl,h.2,h.1,rfl⟩
 obtain ⟨k,f,v,l⟩:=x
 rw [ab]
 simp only [Pd.T.k]
 refine aA Tryz.func176 rfl (by decide) ?_
 repeat' first|(refine sxZ ?_;try clear hK K)|refine sxW ?_ ?_<;>intro _|(intro K hK _;conv=>whnf)
 all_goals exact ⟨rfl,MemFits.pre 1 rfl⟩
theorem ip (q:Pd.T→Bool) (v:Value) (l:List Pd.T) (hv:Pd.Row F v l) (hn:l.length≤4611686018427387904) (g:FuncId) (first captured:List AV)
  (hg:∀ x∈l,∀ A,Pd.Row F A x.l→NCall Tryz.prog g (first++[.agg (Pd.cs x A)]++captured) [hpB F] fun r m=>r = .bool (q x)∧m=[hpB F]) :
  NCall Tryz.prog 191 [.hs v l.length,.fn g first captured] [hpB F] fun r m=>((r = .int .i64 (-1)∧∀ x∈l,q x=false)∨∃ j:Nat,r = .int .i64 j∧j<l.length∧(∀ x,l[j]?=some x→q x=true)∧∀ x∈l.take j,q x=false)∧m=[hpB F]:=by
 have hok:=hv.ok
 refine aA Tryz.func191 rfl (by decide) ?_
 repeat' first|(refine sxZ ?_;try clear hK K)|refine sxW ?_ ?_<;>intro _|(intro K hK _;conv=>whnf)
 refine aD (α:=Nat) (fun k=>k≤l.length∧∀ x∈l.take k,q x=false) (fun k=>[.k,.k,.k,.k,.d,.d,.k,.k,.set (.int .i64 k),.d,.d,.d,.d,.d,.d,.d,.d,.d,.d]) (fun _=>[]) (fun k=>l.length - k) 0 ⟨Nat.zero_le _,fun x hx=>by simp at hx⟩ ?_ (MemFits.eq rfl) ?_
 ·exact aC
 (intro k ⟨hk,hgone⟩;intro K hK;(conv=>whnf);refine hK _ _ ?_;clear hK K)
 by_cases hlt:k<l.length
 ·have hx:l[k]?=some l[k]:=List.getElem?_eq_getElem hlt
  obtain ⟨A,cap,hA,c0,c1,c2,c3⟩:=hv.get hx
  have hmem:=List.mem_of_getElem? hx
  have hnx:l.take (k+1)=l.take k++[l[k]]:=by rw [List.take_add_one,hx];rfl
  have c:=hg _ hmem _ hA
  generalize l[k]=x at *
  simp only [Pd.cs] at c
  cases hq:q x with
  | false =>
   rw [hq] at c
   repeat' first|(intro K hK;(with_reducible refine gC ?_);refine cS [0] c ?_)|(refine sxZ ?_;try clear hK K)|refine sxW ?_ ?_<;>intro _|(intro K hK _;conv=>whnf)
   refine aB (k+1) ⟨hlt,fun y hy=>?_⟩ (by omega) ?_ (MemFits.eq rfl)
   ·rw [hnx] at hy
    rcases List.mem_append.1 hy with hy | hy
    ·exact hgone y hy
    ·rw [List.mem_singleton.1 hy];exact hq
   ·exact aC
  | true =>
   rw [hq] at c
   repeat' first|(intro K hK;(with_reducible refine gC ?_);refine cS [0] c ?_)|(refine sxZ ?_;try clear hK K)|refine sxW ?_ ?_<;>intro _|(intro K hK _;conv=>whnf)
   exact ⟨.inr ⟨k,rfl,hlt,fun y hy=>by rw [hx] at hy;injection hy with hy;rw [← hy];exact hq,hgone⟩,rfl⟩
 ·have hkl:k=l.length:=by omega
  subst hkl
  rw [List.take_length] at hgone
  repeat' first|(refine sxZ ?_;try clear hK K)|refine sxW ?_ ?_<;>intro _|(intro K hK _;conv=>whnf)
  exact ⟨.inl ⟨rfl,hgone⟩,rfl⟩
end
theorem kB {F:Heap} {f:FuncId} {w:Value} {ps:List (Pd.T × Value)} {t ti:TypeId} {b:Addr} {d:Int} {g:FuncId} {args0:List AV} {m0:List Blk} {K0:AV→List Blk→Prop} {K:AV→Prop} (h0:NCall Tryz.prog f args0 m0 K0)
  (hall:∀ p∈ps,Pd.Row F p.2 p.1.l)
  (h:∀ G,F.le G→Pd.Row G w (ps.map (·.1))→G.c (b.add 0) (.int .i64 d)→NCall Tryz.prog f [.hs w (ps.map (·.1)).length,.fn g [] [.hp b 0]] [hpB G] fun r m=>K r∧m=[hpB G]) :
  NCall Tryz.prog f [.sl 1 w ps.length,.fn g [] [.ptr 2 b 0]] [hpB F,⟨addrOf w,Pd.psC ps,.row w t 4 ps.length⟩,⟨b,[.int .i64 d],.var ti⟩] fun r m=>K r∧m=[hpB F,⟨addrOf w,Pd.psC ps,.row w t 4 ps.length⟩,⟨b,[.int .i64 d],.var ti⟩]:=by
 refine NCall.when h0 fun ⟨W,hw⟩=>?_
 have hok:=(hw.row (List.mem_cons_of_mem _ (List.mem_cons_self ..))).1
 have hrow:=aJ (F:=F) (sz:=4) (enc:=Pd.psV) hok (Pd.psC_den ps) (fun x _=>rfl)
 have hr2:=Pd.row_of hrow fun p hp=>Pd.Row.mono addF.old (hall p hp)
 have hnew:=addF.new (F:=addF F (addrOf w) (denL (Pd.psC ps))) (a:=b) (vs:=denL [.int .i64 d])
 obtain ⟨c0,_⟩:=hnew
 refine NCall.keep (h _ (addF.old.trans addF.old) (Pd.Row.mono addF.old hr2) c0) ?_ ((MemFits.freeze (m:=[⟨b,[.int .i64 d],.var ti⟩])).trans (MemFits.freezeVar (m:=[]))) rfl fun r mL' h=>⟨r,rfl,h.1,rfl⟩
 rw [List.length_map]
 rfl
theorem kg {α:Type} (q:α→Bool):∀ l:List α,(∀ x∈l,q x=false)∨∃ j,j<l.length∧(∀ x,l[j]?=some x→q x=true)∧∀ x∈l.take j,q x=false
 | []=>.inl (by simp)
 | x::l=>by
  cases hx:q x with
  | true=>exact .inr ⟨0,by simp,fun y hy=>by simp at hy;rw [← hy];exact hx,by simp⟩
  | false =>
   rcases kg q l with h | ⟨j,h1,h2,h3⟩
   ·exact .inl fun y hy=>(List.mem_cons.1 hy).elim (fun e=>e ▸ hx) (h y)
   ·exact .inr ⟨j+1,by simp;omega,fun y hy=>h2 y (by simpa using hy),fun y hy=>by rw [List.take_succ_cons] at hy;exact (List.mem_cons.1 hy).elim (fun e=>e ▸ hx) (h3 y)⟩
theorem l6 {α:Type} {q:α→Bool} {l:List α} {j k:Nat} (h1:∀ x,l[j]?=some x→q x=true) (h2:∀ x∈l.take j,q x=false) (hj:j<l.length) (h3:∀ x,l[k]?=some x→q x=true) (h4:∀ x∈l.take k,q x=false) (hk:k<l.length):j=k:=by
 have key:∀ {j k:Nat},(∀ x,l[j]?=some x→q x=true)→j<l.length→(∀ x∈l.take k,q x=false)→¬ j<k:=fun {j k} h1 hj h4 hlt=>by
  have e:l[j]?=some l[j]:=List.getElem?_eq_getElem hj
  have hm:l[j]∈l.take k:=List.mem_of_getElem? (i:=j) (by rw [List.getElem?_take,if_pos hlt];exact e)
  have:=h1 _ e
  rw [h4 _ hm] at this
  cases this
 have:=key h1 hj h4
 have:=key h3 hk h2
 omega
namespace Pd
theorem kp_append (d:Int) (a b:List (T × Value)):kp d (a++b)=kp d a++kp d b:=by unfold kp;rw [List.filter_append]
theorem kp_all {d:Int} {ps:List (T × Value)} (h:∀ p∈ps,decide (p.1.k=d)=false):kp d ps=ps:=by
 unfold kp
 exact List.filter_eq_self.2 fun p hp=>by rw [h p hp];rfl
theorem kp_len (d:Int) (ps:List (T × Value)):(kp d ps).length≤ps.length:=List.length_filter_le _ _
theorem kp_next (d:Int) {ps:List (T × Value)} {j:Nat} {p:T × Value} (h:ps[j]?=some p):kp d (ps.take (j+1))=kp d (ps.take j)++(if p.1.k=d then [] else [p]):=by
 rw [List.take_add_one,h,kp_append]
 congr 1
 show kp d [p]=_
 unfold kp
 by_cases hk:p.1.k=d<;>simp [hk]
end Pd
theorem l9 (F:Heap) (w:Value) (ps:List (Pd.T × Value)) (b:Addr) (d:Int) (hn:ps.length≤1000000000000) (hall:∀ p∈ps,Pd.Row F p.2 p.1.l) :
  NCall Tryz.prog 175 [.sl 1 w ps.length,.fn 176 [] [.ptr 2 b 0]] [hpB F,⟨addrOf w,Pd.psC ps,.row w 68 4 ps.length⟩,⟨b,[.int .i64 d],.var 3⟩] fun r m =>
   (r = .sl 1 w ps.length∧Pd.kp d ps=ps∧m=[hpB F,⟨addrOf w,Pd.psC ps,.row w 68 4 ps.length⟩,⟨b,[.int .i64 d],.var 3⟩]) ∨
   ∃ junk,(Pd.kp d ps).length≤ps.length∧r = .view 1 w 4 0 (Pd.kp d ps).length∧MemFits m [hpB F,⟨addrOf w,Pd.psC (Pd.kp d ps)++junk,.row w 68 4 ps.length⟩,⟨b,[.int .i64 d],.var 3⟩]:=by
 have ci0:=kB (K:=fun r=>(r = .int .i64 (-1)∧∀ x∈ps.map (·.1),decide (x.k=d)=false)∨∃ j:Nat,r = .int .i64 j∧j<(ps.map (·.1)).length∧(∀ x,(ps.map (·.1))[j]?=some x→decide (x.k=d)=true)∧∀ x∈(ps.map (·.1)).take j,decide (x.k=d)=false) (w:=w) (t:=68) (ti:=3) (b:=b) (d:=d) (g:=176) (ip F (fun _=>true) (.slice none 0 0) [] ⟨SlOk.nil,fun k x hx=>by simp at hx⟩ (by simp) 0 [] [] fun x hx=>by simp at hx) hall
  fun G hG hw hb=>ip G (fun x=>decide (x.k=d)) w _ hw (by rw [List.length_map];omega) 176 [] [.hp b 0] fun x _ A _=>md G x A d b hb
 have cd:∀ x∈ps,∀ t,decide (x.1.k=d)=t→NCall Tryz.prog 176 [.agg (Pd.cs x.1 x.2),.ptr 1 b 0] [hpB F,⟨b,[.int .i64 d],.var 3⟩] fun r m=>r = .bool t∧m=[hpB F,⟨b,[.int .i64 d],.var 3⟩]:=fun x hx t ht=>by
  subst ht
  have hnew:=addF.new (F:=F) (a:=b) (vs:=denL [.int .i64 d])
  obtain ⟨c0,_⟩:=hnew
  exact NCall.keep (md (addF F b (denL [.int .i64 d])) x.1 x.2 d b c0) rfl (MemFits.freezeVar (m:=[])) rfl fun r mL' h=>⟨r,rfl,h.1,rfl⟩
 have hkl:=Pd.kp_len d ps
 have hlc:=Pd.psC_len ps
 rcases kg (fun p:Pd.T × Value=>decide (p.1.k=d)) ps with hno | ⟨j,hj,hyes,hno⟩
 ·have ci:=ci0.mono (K':=fun r m=>r = .int .i64 (-1)∧m=[hpB F,⟨addrOf w,Pd.psC ps,.row w 68 4 ps.length⟩,⟨b,[.int .i64 d],.var 3⟩]) fun r m h=>by
   obtain ⟨h0,h9⟩:=h
   refine ⟨?_,h9⟩
   rcases h0 with ⟨h1,_⟩ | ⟨k,_,hk,h2,_⟩
   ·exact h1
   ·exfalso
    rw [List.length_map] at hk
    have:=h2 _ (by rw [List.getElem?_map,List.getElem?_eq_getElem hk];rfl)
    rw [hno _ (List.getElem_mem hk)] at this
    cases this
  clear ci0
  rw [Pd.kp_all hno]
  refine aA Tryz.func175 rfl (by decide) ?_
  repeat' first|(intro K hK;(with_reducible refine gC ?_);(refine cN [0,1,2] ci ?_;rintro _ _ ⟨rfl,rfl⟩;refine cR ?_))|(refine sxZ ?_;try clear hK K)|refine sxW ?_ ?_<;>intro _|(intro K hK _;conv=>whnf)
  all_goals exact .inl ⟨rfl,rfl,rfl⟩
 ·have ci:=ci0.mono (K':=fun r m=>r = .int .i64 (j:Int)∧m=[hpB F,⟨addrOf w,Pd.psC ps,.row w 68 4 ps.length⟩,⟨b,[.int .i64 d],.var 3⟩]) fun r m h=>by
   obtain ⟨h0,h9⟩:=h
   refine ⟨?_,h9⟩
   rcases h0 with ⟨_,h1⟩ | ⟨k,rfl,hk,h2,h3⟩
   ·exfalso
    have:=h1 _ (List.mem_map_of_mem (List.getElem_mem hj))
    rw [hyes _ (List.getElem?_eq_getElem hj)] at this
    cases this
   ·rw [List.length_map] at hk
    rw [l6 hyes hno hj (fun x hx=>h2 x.1 (by rw [List.getElem?_map,hx];rfl)) (fun x hx=>h3 x.1 (by rw [← List.map_take];exact List.mem_map_of_mem hx)) hk]
  clear ci0
  refine aA Tryz.func175 rfl (by decide) ?_
  repeat' first|(intro K hK;(with_reducible refine gC ?_);(refine cN [0,1,2] ci ?_;rintro _ _ ⟨rfl,rfl⟩;refine cR ?_))|(refine sxZ ?_;try clear hK K)|refine sxW ?_ ?_<;>intro _|(intro K hK _;conv=>whnf)
  have hk0:Pd.kp d (ps.take (j+1))=ps.take j:=by
   rw [Pd.kp_next d (List.getElem?_eq_getElem hj),if_pos (of_decide_eq_true (hyes _ (List.getElem?_eq_getElem hj))),List.append_nil]
   exact Pd.kp_all hno
  refine aD (α:=Nat × Nat × List (Pd.T × Value)) (fun (i,k,qs)=>(i<k∧k≤ps.length∧qs.length=ps.length)∧qs.take i=Pd.kp d (ps.take k)∧i=(Pd.kp d (ps.take k)).length∧qs.drop k=ps.drop k) (fun (i,k,qs)=>[.k,.k,.k,.k,.k,.set (.int .i64 i),.set (.int .i64 k),.d,.k,.k,.k,.k,.k,.k,.k,.k,.d,.d,.d,.d,.d,.d,.d,.d,.d,.d,.d,.d,.d,.d,.d,.d,.d,.d,.d,.d,.k,.k,.k,.k,.k,.k])
   (fun (i,k,qs)=>[.k,.set ⟨addrOf w,Pd.psC qs,.row w 68 4 ps.length⟩]) (fun (i,k,qs)=>ps.length - k) (j,j+1,ps) ⟨⟨by omega,hj,rfl⟩,hk0.symm,by rw [hk0,List.length_take];omega,rfl⟩ ?_ (MemFits.eq rfl) ?_
  ·exact aC
  (intro ⟨i,k,qs⟩ ⟨⟨hik,hkn,hql⟩,htk,hil,hdr⟩;intro K hK;(conv=>whnf);refine hK _ _ ?_;clear hK K)
  dsimp only
  have hlq:=Pd.psC_len qs
  by_cases hlt:k<ps.length
  ·have hp:ps[k]?=some ps[k]:=List.getElem?_eq_getElem hlt
   have hq:qs[k]?=some ps[k]:=by
    have:=congrArg (fun l=>l[0]?) hdr
    simp only [List.getElem?_drop,Nat.add_zero] at this
    rw [this,hp]
   have hny:ps[k].1.k=d→Pd.kp d (ps.take (k+1))=Pd.kp d (ps.take k):=fun h=>by rw [Pd.kp_next d hp,if_pos h,List.append_nil]
   have hnn:¬ ps[k].1.k=d→Pd.kp d (ps.take (k+1))=Pd.kp d (ps.take k)++[ps[k]]:=fun h=>by rw [Pd.kp_next d hp,if_neg h]
   have hd1:qs.drop (k+1)=ps.drop (k+1):=by
    rw [← List.drop_drop,← List.drop_drop,hdr]
   have c:=cd _ (List.getElem_mem hlt)
   clear cd
   generalize ps[k]=x at *
   obtain ⟨⟨xk,xf,xv,xl⟩,u⟩:=x
   simp only [ab,Pd.T.k] at c hny hnn
   by_cases hxd:xk=d
   ·have c:=c true (decide_eq_true hxd)
    have hnx:=hny hxd
    clear hnn hny
    repeat' first|((try intro K hK);(with_reducible refine gC ?_);refine cS [0,2] c ?_)|((try intro K hK);(refine Pd.cellsK_ps hq ?_;conv=>whnf))|(refine sxZ ?_;try clear hK K)|refine sxW ?_ ?_<;>intro _|(intro K hK _;conv=>whnf)|(intro _;conv=>whnf)
    refine aB (i,k+1,qs) ⟨⟨(show i<k+1 by omega),hlt,hql⟩,by rw [hnx];exact htk,by rw [hnx];exact hil,hd1⟩ (show ps.length - (k+1)<ps.length - k by omega) ?_ (MemFits.pre 3 rfl)
    exact aC
   ·have c:=c false (decide_eq_false hxd)
    have hnx:=hnn hxd
    clear hnn hny
    repeat' first|((try intro K hK);(with_reducible refine gC ?_);refine cS [0,2] c ?_)|((try intro K hK);(refine Pd.cellsK_ps hq ?_;conv=>whnf))|((try intro K hK);(refine Pd.putK_ps (by omega) rfl ?_;conv=>whnf))|(refine sxZ ?_;try clear hK K)|refine sxW ?_ ?_<;>intro _|(intro K hK _;conv=>whnf)|(intro _;conv=>whnf)
    refine aB (i+1,k+1,qs.set i (.mk xk xf xv xl,u)) ⟨⟨(show i+1<k+1 by omega),hlt,by rw [List.length_set];exact hql⟩,?_,by rw [hnx,List.length_append,← hil];rfl,?_⟩ (show ps.length - (k+1)<ps.length - k by omega) ?_ (MemFits.pre 3 rfl)
    ·rw [hnx,← htk,List.take_add_one,List.getElem?_set_self (by omega),List.take_set_of_le (Nat.le_refl _)]
     rfl
    ·rw [List.drop_set_of_lt (show i<k+1 by omega)];exact hd1
    ·exact aC
  ·obtain rfl:k=ps.length:=by omega
   rw [List.take_length] at htk hil
   have e1:=(Pd.psC_split qs i).1
   rw [htk] at e1
   subst hil
   repeat' first|((try intro K hK);(refine NMap.clear (j:=1) rfl rfl rfl rfl (by decide) rfl (by omega) (by omega) ?_;conv=>whnf))|(refine sxZ ?_;try clear hK K)|refine sxW ?_ ?_<;>intro _|(intro K hK _;conv=>whnf)|(intro _;conv=>whnf)
   all_goals exact .inr ⟨_,hkl,rfl,MemFits.eq (by rw [e1])⟩
theorem jX (F:Heap) (w:Value) (ps:List (Pd.T × Value)) (b:Addr) (d:Int) (hn:ps.length≤1000000000000) (hall:∀ p∈ps,Pd.Row F p.2 p.1.l) :
  NCall Tryz.prog 175 [.sl 1 w ps.length,.fn 176 [] [.ptr 2 b 0]] [hpB F,⟨addrOf w,Pd.psC ps,.row w 68 4 ps.length⟩,⟨b,[.int .i64 d],.var 3⟩] fun r m =>
   r = .sl 1 (cutSl w 4 0 (Pd.kp d ps).length) (Pd.kp d ps).length∧m=[hpB F,⟨addrOf (cutSl w 4 0 (Pd.kp d ps).length),Pd.psC (Pd.kp d ps),.row (cutSl w 4 0 (Pd.kp d ps).length) 68 4 (Pd.kp d ps).length⟩,⟨b,[.int .i64 d],.var 3⟩]:=by
 refine Go.Sx.NCall.know (l9 F w ps b d hn hall) fun r m' hk ⟨W,hw⟩=>?_
 rcases hk with ⟨rfl,hkp,rfl⟩ | ⟨junk,hle,rfl,hm⟩
 ·have hh:=hw.holds ⟨addrOf w,Pd.psC ps,.row w 68 4 ps.length⟩ (by simp)
  unfold Blk.holds at hh
  obtain ⟨_,_,_,_,h7⟩:=jY hh.1 (Nat.le_refl _)
  refine ⟨.sl 1 w ps.length,_,rfl,MemFits.eq rfl,?_,?_⟩
  ·rw [hkp];simp only [h7]
  ·rw [hkp];simp only [h7]
 ·have hh:=(hm W hw).1.holds ⟨addrOf w,Pd.psC (Pd.kp d ps)++junk,.row w 68 4 ps.length⟩ (by simp)
  unfold Blk.holds at hh
  obtain ⟨_,_,_,h6,_⟩:=jY hh.1 hle
  refine ⟨.sl 1 (cutSl w 4 0 (Pd.kp d ps).length) (Pd.kp d ps).length,_,?_,hm.trans (MemFits.cutRow hle),rfl,?_⟩
  ·exact h6
  ·rw [show (Pd.psC (Pd.kp d ps)++junk).take ((Pd.kp d ps).length*4)=Pd.psC (Pd.kp d ps) by rw [← Pd.psC_len (Pd.kp d ps)];exact List.take_left ..]
theorem np {k f v out d:Int} {ps:List (Pd.T × Value)} (h:¬ (ps.map (·.1)).any (fun x=>decide (x.k=d))=true):Pd.fold k f v out d (ps.map (·.1))=match (Pd.kp out ps).map (·.1) with
  | []=>.mk out 0 0 []
  | [x]=>x
  | x::y::r=>.mk k f v (x::y::r):=by
 unfold Pd.fold
 rw [if_neg h]
 have:(ps.map (·.1)).filter (fun x=>!decide (x.k=out))=(Pd.kp out ps).map (·.1):=by
  unfold Pd.kp
  rw [List.filter_map]
  rfl
 rw [this]
 rfl
theorem pJ (F:Heap) (k f v out d:Int) (w:Value) (ps:List (Pd.T × Value)) (hn:ps.length≤1000000000000) (hall:∀ p∈ps,Pd.Row F p.2 p.1.l) :
  NCall Tryz.prog 148 [.agg [.int .i64 k,.int .i64 f,.int .i64 v,.sl 1 w ps.length],.int .i64 out,.int .i64 d] [hpB F,⟨addrOf w,Pd.psC ps,.row w 68 4 ps.length⟩] fun r m=>Pd.Out F 68 (Pd.fold k f v out d (ps.map (·.1))) r m:=by
 have cc:=fun b=>kB (K:=fun r=>r = .bool ((ps.map (·.1)).any fun x=>decide (x.k=d))) (w:=w) (t:=68) (ti:=3) (b:=b) (d:=d) (g:=174) (bz F (fun _=>true) (.slice none 0 0) [] ⟨SlOk.nil,fun k x hx=>by simp at hx⟩ (by simp) 0 [] [] fun x hx=>by simp at hx) hall
  fun G hG hw hb=>bz G (fun x=>decide (x.k=d)) w _ hw (by rw [List.length_map];omega) 174 [] [.hp b 0] fun x _ A _=>qg G x A d b hb
 have cd:=fun b=>jX F w ps b out hn hall
 refine aA Tryz.func148 rfl (by decide) ?_
 by_cases hany:((ps.map (·.1)).any fun x=>decide (x.k=d))=true
 ·rw [show Pd.fold k f v out d (ps.map (·.1)) = .mk d 0 0 [] by unfold Pd.fold;rw [if_pos hany]]
  rw [hany] at cc
  repeat' first|(intro K hK;(with_reducible refine gC ?_);(refine cN [0,1,4] (cc _) ?_;rintro _ _ ⟨rfl,rfl⟩;refine cR ?_))|(refine sxZ ?_;try clear hK K)|refine sxW ?_ ?_<;>intro _|(intro K hK _;conv=>whnf)
  all_goals exact .inr ⟨F,.slice none 0 0,F.le_refl,⟨SlOk.nil,fun k x hx=>by simp [Pd.T.l] at hx⟩,rfl,MemFits.pre 1 rfl⟩
 ·rw [np hany]
  rw [show ((ps.map (·.1)).any fun x=>decide (x.k=d))=false by simpa using hany] at cc
  have hall2:∀ p∈Pd.kp out ps,Pd.Row F p.2 p.1.l:=fun p hp=>hall p (List.mem_filter.1 hp).1
  have hkl:=Pd.kp_len out ps
  have hlc:=Pd.psC_len (Pd.kp out ps)
  generalize Pd.kp out ps=ks at *
  generalize cutSl w 4 0 ks.length=w' at *
  clear hany
  match ks,hall2 with
  | [],_ =>
   repeat' first|(intro K hK;(with_reducible refine gC ?_);first|(refine cN [0,1,4] (cc _) ?_;rintro _ _ ⟨rfl,rfl⟩;refine cR ?_)|(refine cN [0,1,3] (cd _) ?_;rintro _ _ ⟨rfl,rfl⟩;refine cR ?_))|(refine sxZ ?_;try clear hK K)|refine sxW ?_ ?_<;>intro _|(intro K hK _;conv=>whnf)
   all_goals exact .inr ⟨F,.slice none 0 0,F.le_refl,⟨SlOk.nil,fun k x hx=>by simp [Pd.T.l] at hx⟩,rfl,MemFits.pre 1 rfl⟩
  | [(⟨xk,xf,xv,xl⟩,u)],hall2 =>
   have hq:[((⟨xk,xf,xv,xl⟩:Pd.T),u)][0]?=some (⟨xk,xf,xv,xl⟩,u):=rfl
   repeat' first|((try intro K hK);(with_reducible refine gC ?_);first|(refine cN [0,1,4] (cc _) ?_;rintro _ _ ⟨rfl,rfl⟩;refine cR ?_)|(refine cN [0,1,3] (cd _) ?_;rintro _ _ ⟨rfl,rfl⟩;refine cR ?_))|((try intro K hK);(refine Pd.cellsK_ps hq ?_;conv=>whnf))|(refine sxZ ?_;try clear hK K)|refine sxW ?_ ?_<;>intro _|(intro K hK _;conv=>whnf)|(intro _;conv=>whnf)
   all_goals exact .inr ⟨F,u,F.le_refl,hall2 (⟨xk,xf,xv,xl⟩,u) (by simp),rfl,MemFits.pre 1 rfl⟩
  | x::y::r,hall2 =>
   have hlen:(x::y::r).length=r.length+2:=rfl
   generalize hks:x::y::r=ks at *
   repeat' first|(intro K hK;(with_reducible refine gC ?_);first|(refine cN [0,1,4] (cc _) ?_;rintro _ _ ⟨rfl,rfl⟩;refine cR ?_)|(refine cN [0,1,3] (cd _) ?_;rintro _ _ ⟨rfl,rfl⟩;refine cR ?_))|(refine sxZ ?_;try clear hK K)|refine sxW ?_ ?_<;>intro _|(intro K hK _;conv=>whnf)
   all_goals
    refine .inl ⟨F,w',ks,F.le_refl,?_,hall2,?_,MemFits.pick [0,1] (by decide) rfl⟩
    ·rw [← hks];rfl
    ·rw [← hks];rfl
theorem mr (b:Bool):NCall Tryz.prog 147 [.bool b] [] fun r _=>r = .agg [.int .i64 (if b then 1 else 2),.int .i64 0,.int .i64 0,.raw (.slice none 0 0)]:=by
 refine aA Tryz.func147 rfl (by decide) ?_
 cases b
 iterate 2
  ·repeat' first|(refine sxZ ?_;try clear hK K)|refine sxW ?_ ?_<;>intro _|(intro K hK _;conv=>whnf)
   all_goals rfl
theorem iv (F:Heap) (k f v out d:Int) (w:Value) (ps:List (Pd.T × Value)) (hn:ps.length≤1000000000000) (hall:∀ p∈ps,Pd.Row F p.2 p.1.l) :
  NCall Tryz.prog 148 [.agg [.int .i64 k,.int .i64 f,.int .i64 v,.sl 1 w ps.length],.int .i64 out,.int .i64 d] [hpB F,⟨addrOf w,Pd.psC ps,.row w 68 4 ps.length⟩] fun r m=>∃ F' u,F.le F'∧Pd.Row F' u (Pd.fold k f v out d (ps.map (·.1))).l∧r = .agg (Pd.cs (Pd.fold k f v out d (ps.map (·.1))) u)∧m=[hpB F',hpB noHeap]:=by
 refine (Pd.out_know (pJ F k f v out d w ps hn hall)).fits fun r m' hr=>?_
 obtain ⟨F',u,h1,h2,h3,rfl⟩:=hr
 exact ⟨r,_,rfl,(MemFits.noHeap _).trans (MemFits.pick [1,0] (by decide) rfl),F',u,h1,h2,h3,rfl⟩
theorem jZ:∀ (n:Nat) (F:Heap) (p:Pd.T) (u:Value) (sw:Int),Pd.size p≤n→Pd.size p≤1000000000000→Pd.fits p=true→Pd.Row F u p.l →
  NCall Tryz.prog 111 [.agg (Pd.cs p u),.int .i64 sw] [hpB F] fun r m=>Pd.Lays F (Pd.cut sw p) r m
 | 0,F,p,u,sw,hn,_,_,_=>absurd (Pd.size_pos p) (by omega)
 | n+1,F,⟨k,f,v,l⟩,u,sw,hn,hs,hf,hu=>by
  refine Pd.out_know (t:=68) ?_
  have hu:Pd.Row F u l:=hu
  have hok:=hu.ok
  obtain ⟨hsh,hfl⟩:=Pd.fits_mk hf
  have hl12:l.length≤1000000000000:=by have:=Pd.size_mk k f v l;have:=Pd.length_le l;omega
  have hll:=Pd.length_le l
  have ih:∀ G,∀ x∈l,∀ w,Pd.Row G w x.l→NCall Tryz.prog 111 [.agg (Pd.cs x w),.int .i64 sw] [hpB G] fun r m=>Pd.Lays G (Pd.cut sw x) r m:=fun G x hx w hw=>jZ n G x w sw (by have:=Pd.size_lt (k:=k) (f:=f) (v:=v) hx;omega) (by have:=Pd.size_lt (k:=k) (f:=f) (v:=v) hx;omega) (hfl x hx) hw
  have ct:=mr
  have hone:∀ y∈l,1≤(Pd.cut sw y).k:=fun y hy=>(Pd.fits_k (Pd.cut_fits sw y (hfl y hy))).1
  rw [ab]
  by_cases h35:k=3∧f=5
  ·obtain ⟨rfl,rfl⟩:=h35
   rw [Pd.cut_sw]
   refine aA Tryz.func111 rfl (by decide) ?_
   have ct:=ct (decide (v=sw))
   simp only [decide_eq_true_eq] at ct
   repeat' first|((try intro K hK);(with_reducible refine gC ?_);refine cP ct ?_)|((first|intro A B hA hB|intro K hK|skip);first|((with_reducible refine NIf.yes ?s ?_);(case s=>simp ;done);conv=>whnf)|((with_reducible refine NIf.no ?s ?_);(case s=>simp ;done);conv=>whnf))|(refine sxZ ?_;(try clear hK K);try clear hA hB A B)|refine sxW ?_ ?_<;>intro _|(intro K hK _;conv=>whnf)
   all_goals exact .inr ⟨F,.slice none 0 0,F.le_refl,⟨SlOk.nil,fun k x hx=>by simp [Pd.T.l] at hx⟩,rfl,MemFits.pre 1 rfl⟩
  by_cases h13:k≤3
  ·have hl0:l=[]:=List.eq_nil_of_length_eq_zero (by omega)
   subst hl0
   rw [Pd.cut_no _ _ _ _ h35 (by omega)]
   clear ih hone ct hll
   rw [List.length_nil] at *
   refine aA Tryz.func111 rfl (by decide) ?_
   repeat' first|((with_reducible refine gX ?_);with_reducible refine bI 1 ?_)|(refine sxZ ?_;try clear hK K)|refine sxW ?_ ?_<;>intro _|(intro K hK _;conv=>whnf)
   all_goals first
    | exact .inr ⟨F,.slice none 0 0,F.le_refl,⟨SlOk.nil,fun k x hx=>by simp [Pd.T.l] at hx⟩,rfl,MemFits.pre 1 rfl⟩
    | (exfalso;omega)
  refine aA Tryz.func111 rfl (by decide) ?_
  have h3:¬ k=3:=by omega
  repeat' first|(refine sxZ ?_;try clear hK K)|refine sxW ?_ ?_<;>intro _|(intro K hK _;conv=>whnf)
  refine aD (α:=Heap × Value × List (Pd.T × Value)) (fun (G,w,ps)=>F.le G∧ps.map (·.1)=(l.take ps.length).map (Pd.cut sw)∧ps.length≤l.length∧∀ p∈ps,Pd.Row G p.2 p.1.l) (fun (G,w,ps)=>[.k,.k,.k,.k,.k,.k,.k,.d,.k,.k,.k,.k,.k,.k,.k,.k,.k,.k,.k,.k,.k,.k,.k,.k,.k,.k,.k,.k,.k,.k,.k,.set (.int .i64 ps.length),.d,.d,.d,.d,.d,.d,.d,.d,.d,.d,.d,.d,.k,.k,.k,.k,.k,.k,.k,.k,.k,.k,.k,.k,.k,.k,.k,.k,.k,.k,.k,.k,.k,.k,.k,.k,.k,.k,.k,.k,.k,.k,.k,.k])
   (fun (G,w,ps)=>[.set (hpB G),.k,.k,.cells [.int .i64 k,.int .i64 f,.int .i64 v,.sl 4 w ps.length],.set ⟨addrOf w,Pd.psC ps,.row w 68 4 ps.length⟩]) (fun (G,w,ps)=>l.length - ps.length) (F,.slice none 0 0,[]) ⟨F.le_refl,rfl,Nat.zero_le _,fun p hp=>by simp at hp⟩ ?_ ((MemFits.nilRow _ 68 4).trans (MemFits.congr rfl)) ?_
  ·exact aC
  (intro ⟨G,w,ps⟩ ⟨hle,hmap,hlen,hall⟩;intro K hK;(conv=>whnf);refine hK _ _ ?_;clear hK K)
  dsimp only
  generalize hk:ps.length=i at *
  by_cases hlt:i<l.length
  ·have hx:l[i]?=some l[i]:=List.getElem?_eq_getElem hlt
   obtain ⟨A,cap,hA,c0,c1,c2,c3⟩:=(Pd.Row.mono hle hu).get hx
   have hmem:=List.mem_of_getElem? hx
   have c:=ih G _ hmem _ hA
   have hnx:(l.take (i+1)).map (Pd.cut sw)=(l.take i).map (Pd.cut sw)++[Pd.cut sw l[i]]:=by rw [List.take_add_one,hx,List.map_append];rfl
   clear ih
   generalize Pd.cut sw l[i]=y at *
   generalize l[i]=x at *
   have hpl:=Pd.psC_len ps
   have hpn:=Pd.psC_next ps
   generalize hpc:Pd.psC ps=pc at *
   obtain ⟨xk,xf,xv,xl⟩:=x
   obtain ⟨yk,yf,yv,yl⟩:=y
   simp only [Pd.Lays,Pd.cs,Pd.T.k,Pd.T.f,Pd.T.v,Pd.T.l] at c c0 c1 c2 c3 hA
   repeat' first|(intro K hK;(with_reducible refine gC ?_);(refine cN [0] c ?_;rintro _ _ ⟨G',w',hle2,hrow,rfl,rfl⟩;refine cR ?_))|(refine sxO ?_;try clear hK K)|refine sxW ?_ ?_<;>intro _|refine sxV ?_ ?_|(intro K hK _;conv=>whnf)
   all_goals
    rename_i v9
    refine aB (G',v9,ps++[(⟨yk,yf,yv,yl⟩,w')]) ⟨hle.trans hle2,by rw [List.map_append,hmap,List.length_append,hk];exact hnx.symm,by rw [List.length_append,hk];exact hlt,fun x hx=>?_⟩ (by rw [List.length_append,hk];show l.length - (i+1)<l.length - i;omega) ?_ (MemFits.pre 5 ?_)
    ·rcases List.mem_append.1 hx with hx | hx
     ·exact Pd.Row.mono hle2 (hall x hx)
     ·rw [List.mem_singleton.1 hx];exact hrow
    ·simp only [List.length_append,hk]
     exact aC
    ·simp only [autoM,List.take,List.length_append,hk,hpn]
     rw [show i+[((⟨yk,yf,yv,yl⟩:Pd.T),w')].length=i+1 from rfl]
     rfl
  ·have hkl:i=l.length:=by omega
   subst hkl
   rw [List.take_length] at hmap
   have hk5:k=5∨k=6→f=0∧v=0:=fun h=>by omega
   have hl1:k=4→f=0∧v=0∧l.length=1:=fun h=>by omega
   have hk456:k=4∨k=5∨k=6:=by omega
   clear ih hsh hn
   by_cases h5:k=5
   ·subst h5
    obtain ⟨rfl,rfl⟩:=hk5 (.inl rfl)
    clear hk5 hl1 hk456 h35 h13 h3
    have cf:=iv G 5 0 0 1 2 w ps (by omega) hall
    rw [Pd.cut_5,← hmap]
    rw [hk] at cf
    generalize Pd.fold 5 0 0 1 2 (ps.map (·.1))=y at *
    obtain ⟨yk,yf,yv,yl⟩:=y
    simp only [Pd.cs,Pd.T.k,Pd.T.f,Pd.T.v,Pd.T.l] at cf
    repeat' first|(intro K hK;(with_reducible refine gC ?_);(refine cN [0,4] cf ?_;rintro _ _ ⟨F',w',hle2,hrow,rfl,rfl⟩;refine cR ?_))|(refine sxZ ?_;try clear hK K)|refine sxW ?_ ?_<;>intro _|(intro K hK _;conv=>whnf)
    all_goals exact .inr ⟨F',w',hle.trans hle2,hrow,rfl,MemFits.pre 1 rfl⟩
   by_cases h6:k=6
   ·subst h6
    obtain ⟨rfl,rfl⟩:=hk5 (.inr rfl)
    clear hk5 hl1 hk456 h35 h13 h3 h5
    have cf:=iv G 6 0 0 2 1 w ps (by omega) hall
    rw [Pd.cut_6,← hmap]
    rw [hk] at cf
    generalize Pd.fold 6 0 0 2 1 (ps.map (·.1))=y at *
    obtain ⟨yk,yf,yv,yl⟩:=y
    simp only [Pd.cs,Pd.T.k,Pd.T.f,Pd.T.v,Pd.T.l] at cf
    repeat' first|(intro K hK;(with_reducible refine gC ?_);(refine cN [0,4] cf ?_;rintro _ _ ⟨F',w',hle2,hrow,rfl,rfl⟩;refine cR ?_))|(refine sxZ ?_;try clear hK K)|refine sxW ?_ ?_<;>intro _|(intro K hK _;conv=>whnf)
    all_goals exact .inr ⟨F',w',hle.trans hle2,hrow,rfl,MemFits.pre 1 rfl⟩
   by_cases h4:k=4
   ·subst h4
    obtain ⟨rfl,rfl,hl1⟩:=hl1 rfl
    clear hk5 hk456 h35 h13 h3 h5 h6
    match l,hl1,ps,hk,hmap with
    | [q],_,[(⟨yk,yf,yv,yl⟩,w')],_,hmap =>
     have hc:Pd.cut sw q=⟨yk,yf,yv,yl⟩:=by simpa using hmap.symm
     have h1:=hone q (by simp)
     rw [Pd.cut_4,hc]
     rw [hc] at h1
     have hps:Pd.psC [((⟨yk,yf,yv,yl⟩:Pd.T),w')]=[.int .i64 yk,.int .i64 yf,.int .i64 yv,.hs w' yl.length]:=rfl
     rw [hps]
     simp only [Pd.T.k] at h1
     by_cases hy:yk≤2
     ·rw [if_pos (show (Pd.T.mk yk yf yv yl).k≤2 from hy)]
      have ct:=ct (decide (yk=2))
      simp only [decide_eq_true_eq] at ct
      repeat' first|(intro K hK;(with_reducible refine gC ?_);refine cP ct ?_)|(refine sxZ ?_;try clear hK K)|refine sxW ?_ ?_<;>intro _|(intro K hK _;conv=>whnf)
      all_goals exact .inr ⟨G,.slice none 0 0,hle,⟨SlOk.nil,fun k x hx=>by simp [Pd.T.l] at hx⟩,rfl,MemFits.pre 1 rfl⟩
     ·rw [if_neg (show ¬ (Pd.T.mk yk yf yv yl).k≤2 from hy)]
      repeat' first|(refine sxZ ?_;try clear hK K)|refine sxW ?_ ?_<;>intro _|(intro K hK _;conv=>whnf)
      all_goals exact .inl ⟨G,w,[(⟨yk,yf,yv,yl⟩,w')],hle,rfl,hall,rfl,MemFits.pick [0,4] (by decide) rfl⟩
   ·exfalso;omega
end Go.Proofs.YtmehinfgdcmmjaaGreat
