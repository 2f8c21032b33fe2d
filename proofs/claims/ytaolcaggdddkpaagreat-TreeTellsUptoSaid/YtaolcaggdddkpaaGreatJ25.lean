import Derived.Test.YtaolcaggdddkpaaGreatJ24
import Derived.Test.YtaolcaggdddkpaaGreatJ3
import Derived.Test.YtaolcaggdddkpaaGreatJ21
namespace Go.Proofs.YtaolcaggdddkpaaGreat
open Go.Sx
set_option maxRecDepth 20000
set_option linter.unusedSimpArgs false
set_option linter.unusedVariables false
set_option maxHeartbeats 4000000
theorem first_or {α:Type} (q:α→Bool):∀ l:List α,(∀ x∈l,q x=false)∨∃ j,j<l.length∧(∀ x,l[j]?=some x→q x=true)∧∀ x∈l.take j,q x=false
 | []=>.inl (by simp)
 | x::l=>by
  cases hx:q x with
  | true=>exact .inr ⟨0,by simp,fun y hy=>by simp at hy;rw [← hy];exact hx,by simp⟩
  | false =>
   rcases first_or q l with h | ⟨j,h1,h2,h3⟩
   ·exact .inl fun y hy=>(List.mem_cons.1 hy).elim (fun e=>e ▸ hx) (h y)
   ·exact .inr ⟨j+1,by simp;omega,fun y hy=>h2 y (by simpa using hy),fun y hy=>by rw [List.take_succ_cons] at hy;exact (List.mem_cons.1 hy).elim (fun e=>e ▸ hx) (h3 y)⟩
theorem first_uniq {α:Type} {q:α→Bool} {l:List α} {j k:Nat} (h1:∀ x,l[j]?=some x→q x=true) (h2:∀ x∈l.take j,q x=false) (hj:j<l.length) (h3:∀ x,l[k]?=some x→q x=true) (h4:∀ x∈l.take k,q x=false) (hk:k<l.length):j=k:=by
 have key:∀ {j k:Nat},(∀ x,l[j]?=some x→q x=true)→j<l.length→(∀ x∈l.take k,q x=false)→¬ j<k:=fun {j k} h1 hj h4 hlt=>by
  have e:l[j]?=some l[j]:=List.getElem?_eq_getElem hj
  have hm:l[j]∈l.take k:=List.mem_of_getElem? (i:=j) (by rw [List.getElem?_take,if_pos hlt];exact e)
  have:=h1 _ e
  rw [h4 _ hm] at this
  cases this
 have:=key h1 hj h4
 have:=key h3 hk h2
 omega
namespace Pd
theorem kp_append (d:Int) (a b:List (T × Value)):kp d (a++b)=kp d a++kp d b:=by unfold kp;rw [List.filter_append]
theorem kp_all {d:Int} {ps:List (T × Value)} (h:∀ p∈ps,decide (p.1.k=d)=false):kp d ps=ps:=by
 unfold kp
 exact List.filter_eq_self.2 fun p hp=>by rw [h p hp];rfl
theorem kp_len (d:Int) (ps:List (T × Value)):(kp d ps).length≤ps.length:=List.length_filter_le _ _
theorem kp_next (d:Int) {ps:List (T × Value)} {j:Nat} {p:T × Value} (h:ps[j]?=some p):kp d (ps.take (j+1))=kp d (ps.take j)++(if p.1.k=d then [] else [p]):=by
 rw [List.take_add_one,h,kp_append]
 congr 1
 show kp d [p]=_
 unfold kp
 by_cases hk:p.1.k=d<;>simp [hk]
end Pd
theorem delete26_c (F:Heap) (w:Value) (ps:List (Pd.T × Value)) (b:Addr) (d:Int) (hn:ps.length≤1000000000000) (hall:∀ p∈ps,Pd.Row F p.2 p.1.l) :
  NCall Tryz.prog 117 [.sl 1 w ps.length,.fn 118 [] [.ptr 2 b 0]] [hpB F,⟨addrOf w,Pd.psC ps,.row w 38 4 ps.length⟩,⟨b,[.int .i64 d],.var 3⟩] fun r m =>
   (r = .sl 1 w ps.length∧Pd.kp d ps=ps∧m=[hpB F,⟨addrOf w,Pd.psC ps,.row w 38 4 ps.length⟩,⟨b,[.int .i64 d],.var 3⟩]) ∨
   ∃ junk,(Pd.kp d ps).length≤ps.length∧r = .view 1 w 4 0 (Pd.kp d ps).length∧MemFits m [hpB F,⟨addrOf w,Pd.psC (Pd.kp d ps)++junk,.row w 38 4 ps.length⟩,⟨b,[.int .i64 d],.var 3⟩]:=by
 have ci0:=read_own (K:=fun r=>(r = .int .i64 (-1)∧∀ x∈ps.map (·.1),decide (x.k=d)=false)∨∃ j:Nat,r = .int .i64 j∧j<(ps.map (·.1)).length∧(∀ x,(ps.map (·.1))[j]?=some x→decide (x.k=d)=true)∧∀ x∈(ps.map (·.1)).take j,decide (x.k=d)=false) (w:=w) (t:=38) (ti:=3) (b:=b) (d:=d) (g:=118) (index26_d F (fun _=>true) (.slice none 0 0) [] ⟨SlOk.nil,fun k x hx=>by simp at hx⟩ (by simp) 0 [] [] fun x hx=>by simp at hx) hall
  fun G hG hw hb=>index26_d G (fun x=>decide (x.k=d)) w _ hw (by rw [List.length_map];omega) 118 [] [.hp b 0] fun x _ A _=>fold2_h G x A d b hb
 have cd:∀ x∈ps,∀ t,decide (x.1.k=d)=t→NCall Tryz.prog 118 [.agg (Pd.cs x.1 x.2),.ptr 1 b 0] [hpB F,⟨b,[.int .i64 d],.var 3⟩] fun r m=>r = .bool t∧m=[hpB F,⟨b,[.int .i64 d],.var 3⟩]:=fun x hx t ht=>by
  subst ht
  have hnew:=addF.new (F:=F) (a:=b) (vs:=denL [.int .i64 d])
  obtain ⟨c0,_⟩:=hnew
  exact NCall.keep (fold2_h (addF F b (denL [.int .i64 d])) x.1 x.2 d b c0) rfl (MemFits.freezeVar (m:=[])) rfl fun r mL' h=>⟨r,rfl,h.1,rfl⟩
 have hkl:=Pd.kp_len d ps
 have hlc:=Pd.psC_len ps
 rcases first_or (fun p:Pd.T × Value=>decide (p.1.k=d)) ps with hno | ⟨j,hj,hyes,hno⟩
 ·have ci:=ci0.mono (K':=fun r m=>r = .int .i64 (-1)∧m=[hpB F,⟨addrOf w,Pd.psC ps,.row w 38 4 ps.length⟩,⟨b,[.int .i64 d],.var 3⟩]) fun r m h=>by
   obtain ⟨h0,h9⟩:=h
   refine ⟨?_,h9⟩
   rcases h0 with ⟨h1,_⟩ | ⟨k,_,hk,h2,_⟩
   ·exact h1
   ·exfalso
    rw [List.length_map] at hk
    have:=h2 _ (by rw [List.getElem?_map,List.getElem?_eq_getElem hk];rfl)
    rw [hno _ (List.getElem_mem hk)] at this
    cases this
  clear ci0
  rw [Pd.kp_all hno]
  refine ncall_of Tryz.func117 rfl (by decide) ?_
  (repeat' (first|(with_reducible first|(refine hK _ _ ?_;clear hK K)|(refine hA ?_;clear hA hB A B)|(refine hK _ ?_;clear hK K))|((with_reducible refine z25 ?_);intro K hK;(conv=>whnf))|(with_reducible refine z0 ?_)|((first|((with_reducible refine NIf.decY ?s ?_);case s=>with_reducible rfl)|((with_reducible refine NCall.isF 144 ?_);refine NCall.subw [0,1,2] _ _ (ci) rfl (by decide) rfl ?_;rintro _ _ ⟨rfl,rfl⟩;refine ⟨Nat.le_of_ble_eq_true rfl,_,rfl,?_⟩))<;>(conv=>whnf))|(with_reducible first|refine z3 ?_|refine z4 ?_|refine z8 ?_)|((with_reducible refine z29 ?_);intro A B hA hB;(conv=>whnf))|(with_reducible first|refine z1 ?_|refine z2 ?_|refine z12 ?_)|((with_reducible refine gR ?_);(refine z31 rfl ?_;intro K hK;(conv=>whnf)))|((with_reducible refine gF ?_);(refine z33 rfl ?_;intro K hK;(conv=>whnf)))))
  all_goals exact .inl ⟨rfl,rfl,rfl⟩
 ·have ci:=ci0.mono (K':=fun r m=>r = .int .i64 (j:Int)∧m=[hpB F,⟨addrOf w,Pd.psC ps,.row w 38 4 ps.length⟩,⟨b,[.int .i64 d],.var 3⟩]) fun r m h=>by
   obtain ⟨h0,h9⟩:=h
   refine ⟨?_,h9⟩
   rcases h0 with ⟨_,h1⟩ | ⟨k,rfl,hk,h2,h3⟩
   ·exfalso
    have:=h1 _ (List.mem_map_of_mem (List.getElem_mem hj))
    rw [hyes _ (List.getElem?_eq_getElem hj)] at this
    cases this
   ·rw [List.length_map] at hk
    rw [first_uniq hyes hno hj (fun x hx=>h2 x.1 (by rw [List.getElem?_map,hx];rfl)) (fun x hx=>h3 x.1 (by rw [← List.map_take];exact List.mem_map_of_mem hx)) hk]
  clear ci0
  refine ncall_of Tryz.func117 rfl (by decide) ?_
  (repeat' (first|(with_reducible first|(refine hK _ _ ?_;clear hK K)|(refine hB ?_;clear hA hB A B)|(refine hK _ ?_;clear hK K))|((with_reducible refine z25 ?_);intro K hK;(conv=>whnf))|(with_reducible refine z0 ?_)|((first|((with_reducible refine NV.i64 ?s ?_);case s=>omega)|((with_reducible refine NIf.decN ?s ?_);case s=>omega)|((with_reducible refine NCall.isF 144 ?_);refine NCall.subw [0,1,2] _ _ (ci) rfl (by decide) rfl ?_;rintro _ _ ⟨rfl,rfl⟩;refine ⟨Nat.le_of_ble_eq_true rfl,_,rfl,?_⟩))<;>(conv=>whnf))|(with_reducible first|refine z3 ?_|refine z4 ?_|refine z5 ?_|refine z6 ?_)|((with_reducible refine z29 ?_);intro A B hA hB;(conv=>whnf))|(with_reducible first|refine z1 ?_|refine z2 ?_)|((with_reducible refine gF ?_);(refine z33 rfl ?_;intro K hK;(conv=>whnf)))))
  have hk0:Pd.kp d (ps.take (j+1))=ps.take j:=by
   rw [Pd.kp_next d (List.getElem?_eq_getElem hj),if_pos (of_decide_eq_true (hyes _ (List.getElem?_eq_getElem hj))),List.append_nil]
   exact Pd.kp_all hno
  refine st_auto (α:=Nat × Nat × List (Pd.T × Value)) (fun (i,k,qs)=>(i<k∧k≤ps.length∧qs.length=ps.length)∧qs.take i=Pd.kp d (ps.take k)∧i=(Pd.kp d (ps.take k)).length∧qs.drop k=ps.drop k) (fun (i,k,qs)=>[.keep,.keep,.keep,.keep,.keep,.set (.int .i64 i),.set (.int .i64 k),.drop,.keep,.keep,.keep,.keep,.keep,.keep,.keep,.keep,.drop,.drop,.drop,.drop,.drop,.drop,.drop,.drop,.drop,.drop,.drop,.drop,.drop,.drop,.drop,.drop,.drop,.drop,.drop,.drop,.keep,.keep,.keep,.keep,.keep,.keep])
   (fun (i,k,qs)=>[.keep,.set ⟨addrOf w,Pd.psC qs,.row w 38 4 ps.length⟩]) (fun (i,k,qs)=>ps.length - k) (j,j+1,ps) ⟨⟨by omega,hj,rfl⟩,hk0.symm,by rw [hk0,List.length_take];omega,rfl⟩ ?_ (MemFits.eq rfl) ?_
  ·repeat (first|exact FitsSl.nil|refine FitsSl.any ?_|refine FitsSl.cons (Fit1.int (by first | rfl | omega)) ?_|refine FitsSl.cons (Fit1.bool rfl) ?_|refine FitsSl.cons (Fit1.same (by intro h;cases h) (by with_reducible rfl)) ?_)
  (intro ⟨i,k,qs⟩ ⟨⟨hik,hkn,hql⟩,htk,hil,hdr⟩;intro K hK;(conv=>whnf);refine hK _ _ ?_;clear hK K)
  dsimp only
  have hlq:=Pd.psC_len qs
  by_cases hlt:k<ps.length
  ·have hp:ps[k]?=some ps[k]:=List.getElem?_eq_getElem hlt
   have hq:qs[k]?=some ps[k]:=by
    have:=congrArg (fun l=>l[0]?) hdr
    simp only [List.getElem?_drop,Nat.add_zero] at this
    rw [this,hp]
   have hny:ps[k].1.k=d→Pd.kp d (ps.take (k+1))=Pd.kp d (ps.take k):=fun h=>by rw [Pd.kp_next d hp,if_pos h,List.append_nil]
   have hnn:¬ ps[k].1.k=d→Pd.kp d (ps.take (k+1))=Pd.kp d (ps.take k)++[ps[k]]:=fun h=>by rw [Pd.kp_next d hp,if_neg h]
   have hd1:qs.drop (k+1)=ps.drop (k+1):=by
    rw [← List.drop_drop,← List.drop_drop,hdr]
   have c:=cd _ (List.getElem_mem hlt)
   clear cd
   generalize ps[k]=x at *
   obtain ⟨⟨xk,xf,xv,xl⟩,u⟩:=x
   simp only [pd_cs,Pd.T.k] at c hny hnn
   by_cases hxd:xk=d
   ·have c:=c true (decide_eq_true hxd)
    have hnx:=hny hxd
    clear hnn hny
    (repeat' (first|(with_reducible first|(refine hK _ _ ?_;clear hK K)|(refine hA ?_;clear hA hB A B)|(refine hB ?_;clear hA hB A B))|((with_reducible refine z25 ?_);intro K hK;(conv=>whnf))|(with_reducible refine z0 ?_)|((first|((with_reducible refine NV.i64 ?s ?_);case s=>omega)|with_reducible refine NIf.not_ ?_|((with_reducible refine NIf.decY ?s ?_);case s=>omega)|((with_reducible refine NIf.yes ?s ?_);case s=>rfl)|(with_reducible first|refine NN.cast ?_|refine NN.keep ?_)|((with_reducible refine NH.mk ?s ?_);case s=>(and_intros<;>first|with_reducible rfl|((with_reducible refine gOnes ?_);rfl)|((with_reducible refine gLen ?_);rfl)|omega))|((with_reducible refine NCall.isF 118 ?_);refine NCall.subE [0,2] (c) rfl (by decide) rfl rfl ?_))<;>(conv=>whnf))|(refine Pd.cellsK_ps hq ?_;conv=>whnf)|(with_reducible first|refine z3 ?_|refine z4 ?_|refine z5 ?_|refine z6 ?_)|((with_reducible refine z29 ?_);intro A B hA hB;(conv=>whnf))|(with_reducible first|refine z1 ?_|refine z2 ?_|refine z9 ?_)|((intro _;skip)<;>(conv=>whnf))))
    refine st_round (i,k+1,qs) ⟨⟨(show i<k+1 by omega),hlt,hql⟩,by rw [hnx];exact htk,by rw [hnx];exact hil,hd1⟩ (show ps.length - (k+1)<ps.length - k by omega) ?_ (MemFits.pre 3 rfl)
    repeat (first|exact FitsSl.nil|refine FitsSl.any ?_|refine FitsSl.cons (Fit1.int (by first | rfl | omega)) ?_|refine FitsSl.cons (Fit1.bool rfl) ?_|refine FitsSl.cons (Fit1.same (by intro h;cases h) (by with_reducible rfl)) ?_)
   ·have c:=c false (decide_eq_false hxd)
    have hnx:=hnn hxd
    clear hnn hny
    (repeat' (first|(with_reducible first|(refine hK _ _ ?_;clear hK K)|(refine hA ?_;clear hA hB A B))|((with_reducible refine z25 ?_);intro K hK;(conv=>whnf))|(with_reducible refine z0 ?_)|((first|((with_reducible refine NV.i64 ?s ?_);case s=>omega)|with_reducible refine NIf.not_ ?_|((with_reducible refine NIf.decY ?s ?_);case s=>omega)|((with_reducible refine NIf.no ?s ?_);case s=>rfl)|(with_reducible first|refine NN.cast ?_|refine NN.keep ?_)|((with_reducible refine NH.mk ?s ?_);case s=>(and_intros<;>first|with_reducible rfl|((with_reducible refine gOnes ?_);rfl)|((with_reducible refine gLen ?_);rfl)|omega))|((with_reducible refine NCall.isF 118 ?_);refine NCall.subE [0,2] (c) rfl (by decide) rfl rfl ?_))<;>(conv=>whnf))|(refine Pd.cellsK_ps hq ?_;conv=>whnf)|(refine Pd.putK_ps (by omega) rfl ?_;conv=>whnf)|(with_reducible first|refine z3 ?_|refine z4 ?_|refine z5 ?_|refine z6 ?_)|((with_reducible refine z29 ?_);intro A B hA hB;(conv=>whnf))|(with_reducible first|refine z1 ?_|refine z2 ?_|refine z9 ?_)|((intro _;skip)<;>(conv=>whnf))))
    refine st_round (i+1,k+1,qs.set i (.mk xk xf xv xl,u)) ⟨⟨(show i+1<k+1 by omega),hlt,by rw [List.length_set];exact hql⟩,?_,by rw [hnx,List.length_append,← hil];rfl,?_⟩ (show ps.length - (k+1)<ps.length - k by omega) ?_ (MemFits.pre 3 rfl)
    ·rw [hnx,← htk,List.take_add_one,List.getElem?_set_self (by omega),List.take_set_of_le (Nat.le_refl _)]
     rfl
    ·rw [List.drop_set_of_lt (show i<k+1 by omega)];exact hd1
    ·repeat (first|exact FitsSl.nil|refine FitsSl.any ?_|refine FitsSl.cons (Fit1.int (by first | rfl | omega)) ?_|refine FitsSl.cons (Fit1.bool rfl) ?_|refine FitsSl.cons (Fit1.same (by intro h;cases h) (by with_reducible rfl)) ?_)
  ·obtain rfl:k=ps.length:=by omega
   rw [List.take_length] at htk hil
   have e1:=(Pd.psC_split qs i).1
   rw [htk] at e1
   subst hil
   (repeat' (first|(with_reducible first|(refine hK _ _ ?_;clear hK K)|(refine hB ?_;clear hA hB A B)|(refine hK _ ?_;clear hK K))|((with_reducible refine z25 ?_);intro K hK;(conv=>whnf))|(with_reducible refine z0 ?_)|((first|((with_reducible refine NIf.decN ?s ?_);case s=>omega)|(with_reducible refine NN.cast ?_)|((with_reducible refine NH.mk ?s ?_);case s=>(and_intros<;>first|with_reducible rfl|omega)))<;>(conv=>whnf))|(refine NMap.clear (j:=1) rfl rfl rfl rfl (by decide) rfl (by omega) (by omega) ?_;conv=>whnf)|(with_reducible first|refine z3 ?_|refine z4 ?_|refine z7 ?_|refine z8 ?_)|((with_reducible refine z29 ?_);intro A B hA hB;(conv=>whnf))|(with_reducible first|refine z1 ?_|refine z2 ?_|refine z10 ?_|refine z11 ?_|refine z19 ?_)|((with_reducible refine gR ?_);(refine z31 rfl ?_;intro K hK;(conv=>whnf)))))
   all_goals exact .inr ⟨_,hkl,rfl,MemFits.eq (by rw [e1])⟩
theorem delete26_own (F:Heap) (w:Value) (ps:List (Pd.T × Value)) (b:Addr) (d:Int) (hn:ps.length≤1000000000000) (hall:∀ p∈ps,Pd.Row F p.2 p.1.l) :
  NCall Tryz.prog 117 [.sl 1 w ps.length,.fn 118 [] [.ptr 2 b 0]] [hpB F,⟨addrOf w,Pd.psC ps,.row w 38 4 ps.length⟩,⟨b,[.int .i64 d],.var 3⟩] fun r m =>
   r = .sl 1 (cutSl w 4 0 (Pd.kp d ps).length) (Pd.kp d ps).length∧m=[hpB F,⟨addrOf (cutSl w 4 0 (Pd.kp d ps).length),Pd.psC (Pd.kp d ps),.row (cutSl w 4 0 (Pd.kp d ps).length) 38 4 (Pd.kp d ps).length⟩,⟨b,[.int .i64 d],.var 3⟩]:=by
 refine Go.Sx.NCall.know (delete26_c F w ps b d hn hall) fun r m' hk ⟨W,hw⟩=>?_
 rcases hk with ⟨rfl,hkp,rfl⟩ | ⟨junk,hle,rfl,hm⟩
 ·have hh:=hw.holds ⟨addrOf w,Pd.psC ps,.row w 38 4 ps.length⟩ (by simp)
  unfold Blk.holds at hh
  obtain ⟨_,_,_,_,h7⟩:=cut_row hh.1 (Nat.le_refl _)
  refine ⟨.sl 1 w ps.length,_,rfl,MemFits.eq rfl,?_,?_⟩
  ·rw [hkp];simp only [h7]
  ·rw [hkp];simp only [h7]
 ·have hh:=(hm W hw).1.holds ⟨addrOf w,Pd.psC (Pd.kp d ps)++junk,.row w 38 4 ps.length⟩ (by simp)
  unfold Blk.holds at hh
  obtain ⟨_,_,_,h6,_⟩:=cut_row hh.1 hle
  refine ⟨.sl 1 (cutSl w 4 0 (Pd.kp d ps).length) (Pd.kp d ps).length,_,?_,hm.trans (MemFits.cutRow hle),rfl,?_⟩
  ·exact h6
  ·rw [show (Pd.psC (Pd.kp d ps)++junk).take ((Pd.kp d ps).length*4)=Pd.psC (Pd.kp d ps) by rw [← Pd.psC_len (Pd.kp d ps)];exact List.take_left ..]
theorem fold_kept {k f v out d:Int} {ps:List (Pd.T × Value)} (h:¬ (ps.map (·.1)).any (fun x=>decide (x.k=d))=true):Pd.fold k f v out d (ps.map (·.1))=match (Pd.kp out ps).map (·.1) with
  | []=>.mk out 0 0 []
  | [x]=>x
  | x::y::r=>.mk k f v (x::y::r):=by
 unfold Pd.fold
 rw [if_neg h]
 have:(ps.map (·.1)).filter (fun x=>!decide (x.k=out))=(Pd.kp out ps).map (·.1):=by
  unfold Pd.kp
  rw [List.filter_map]
  rfl
 rw [this]
 rfl
theorem fold26_c (F:Heap) (k f v out d:Int) (w:Value) (ps:List (Pd.T × Value)) (hn:ps.length≤1000000000000) (hall:∀ p∈ps,Pd.Row F p.2 p.1.l) :
  NCall Tryz.prog 86 [.agg [.int .i64 k,.int .i64 f,.int .i64 v,.sl 1 w ps.length],.int .i64 out,.int .i64 d] [hpB F,⟨addrOf w,Pd.psC ps,.row w 38 4 ps.length⟩] fun r m=>Pd.Out F 38 (Pd.fold k f v out d (ps.map (·.1))) r m:=by
 have cc:=fun b=>read_own (K:=fun r=>r = .bool ((ps.map (·.1)).any fun x=>decide (x.k=d))) (w:=w) (t:=38) (ti:=3) (b:=b) (d:=d) (g:=116) (contains26_c F (fun _=>true) (.slice none 0 0) [] ⟨SlOk.nil,fun k x hx=>by simp at hx⟩ (by simp) 0 [] [] fun x hx=>by simp at hx) hall
  fun G hG hw hb=>contains26_c G (fun x=>decide (x.k=d)) w _ hw (by rw [List.length_map];omega) 116 [] [.hp b 0] fun x _ A _=>fold1_h G x A d b hb
 have cd:=fun b=>delete26_own F w ps b out hn hall
 refine ncall_of Tryz.func86 rfl (by decide) ?_
 by_cases hany:((ps.map (·.1)).any fun x=>decide (x.k=d))=true
 ·rw [show Pd.fold k f v out d (ps.map (·.1)) = .mk d 0 0 [] by unfold Pd.fold;rw [if_pos hany]]
  rw [hany] at cc
  (repeat' (first|(with_reducible first|(refine hK _ _ ?_;clear hK K)|(refine hA ?_;clear hA hB A B)|(refine hK _ ?_;clear hK K))|((with_reducible refine z25 ?_);intro K hK;(conv=>whnf))|(with_reducible refine z0 ?_)|((first|((with_reducible refine NIf.yes ?s ?_);case s=>rfl)|(with_reducible refine NN.a5 ?_)|((with_reducible refine NH.mk ?s ?_);case s=>(and_intros<;>first|with_reducible rfl|((with_reducible refine gOnes ?_);rfl)|((with_reducible refine gLen ?_);rfl)))|((with_reducible refine NCall.isF 115 ?_);refine NCall.subw [0,1,4] _ _ (cc _) rfl (by decide) rfl ?_;rintro _ _ ⟨rfl,rfl⟩;refine ⟨Nat.le_of_ble_eq_true rfl,_,rfl,?_⟩))<;>(conv=>whnf))|(with_reducible first|refine z3 ?_|refine z4 ?_|refine z8 ?_)|((with_reducible refine z29 ?_);intro A B hA hB;(conv=>whnf))|(with_reducible first|refine z1 ?_|refine z2 ?_|refine z12 ?_)|((with_reducible refine gR ?_);(refine z31 rfl ?_;intro K hK;(conv=>whnf)))|((with_reducible refine gF ?_);(refine z33 rfl ?_;intro K hK;(conv=>whnf)))|((intro _;skip)<;>(conv=>whnf))))
  all_goals exact .inr ⟨F,.slice none 0 0,F.le_refl,⟨SlOk.nil,fun k x hx=>by simp [Pd.T.l] at hx⟩,rfl,MemFits.pre 1 rfl⟩
 ·rw [fold_kept hany]
  rw [show ((ps.map (·.1)).any fun x=>decide (x.k=d))=false by simpa using hany] at cc
  have hall2:∀ p∈Pd.kp out ps,Pd.Row F p.2 p.1.l:=fun p hp=>hall p (List.mem_filter.1 hp).1
  have hkl:=Pd.kp_len out ps
  have hlc:=Pd.psC_len (Pd.kp out ps)
  generalize Pd.kp out ps=ks at *
  generalize cutSl w 4 0 ks.length=w' at *
  clear hany
  match ks,hall2 with
  | [],_ =>
   (repeat' (first|(with_reducible first|(refine hK _ _ ?_;clear hK K)|(refine hA ?_;clear hA hB A B)|(refine hB ?_;clear hA hB A B)|(refine hK _ ?_;clear hK K))|((with_reducible refine z25 ?_);intro K hK;(conv=>whnf))|(with_reducible refine z0 ?_)|((first|((with_reducible refine NIf.yes ?s ?_);case s=>rfl)|((with_reducible refine NIf.no ?s ?_);case s=>rfl)|(with_reducible refine NN.a5 ?_)|((with_reducible refine NH.mk ?s ?_);case s=>(and_intros<;>first|with_reducible rfl|((with_reducible refine gOnes ?_);rfl)|((with_reducible refine gLen ?_);rfl)))|((with_reducible refine NCall.isF 115 ?_);refine NCall.subw [0,1,4] _ _ (cc _) rfl (by decide) rfl ?_;rintro _ _ ⟨rfl,rfl⟩;refine ⟨Nat.le_of_ble_eq_true rfl,_,rfl,?_⟩)|((with_reducible refine NCall.isF 117 ?_);refine NCall.subw [0,1,3] _ _ (cd _) rfl (by decide) rfl ?_;rintro _ _ ⟨rfl,rfl⟩;refine ⟨Nat.le_of_ble_eq_true rfl,_,rfl,?_⟩))<;>(conv=>whnf))|(with_reducible first|refine z3 ?_|refine z4 ?_|refine z5 ?_|refine z6 ?_|refine z8 ?_)|((with_reducible refine z29 ?_);intro A B hA hB;(conv=>whnf))|(with_reducible first|refine z1 ?_|refine z2 ?_|refine z12 ?_|refine z13 ?_)|((with_reducible refine gR ?_);(refine z31 rfl ?_;intro K hK;(conv=>whnf)))|((with_reducible refine gF ?_);(refine z33 rfl ?_;intro K hK;(conv=>whnf)))|((intro _;skip)<;>(conv=>whnf))))
   all_goals exact .inr ⟨F,.slice none 0 0,F.le_refl,⟨SlOk.nil,fun k x hx=>by simp [Pd.T.l] at hx⟩,rfl,MemFits.pre 1 rfl⟩
  | [(⟨xk,xf,xv,xl⟩,u)],hall2 =>
   have hq:[((⟨xk,xf,xv,xl⟩:Pd.T),u)][0]?=some (⟨xk,xf,xv,xl⟩,u):=rfl
   (repeat' (first|(with_reducible first|(refine hK _ _ ?_;clear hK K)|(refine hA ?_;clear hA hB A B)|(refine hB ?_;clear hA hB A B)|(refine hK _ ?_;clear hK K))|((with_reducible refine z25 ?_);intro K hK;(conv=>whnf))|(with_reducible refine z0 ?_)|((first|((with_reducible refine NIf.yes ?s ?_);case s=>rfl)|((with_reducible refine NIf.no ?s ?_);case s=>rfl)|(with_reducible first|refine NN.lit ?_|refine NN.a5 ?_|refine NN.a6 ?_)|((with_reducible refine NH.mk ?s ?_);case s=>(and_intros<;>first|with_reducible rfl|((with_reducible refine gOnes ?_);rfl)|((with_reducible refine gLen ?_);rfl)|omega|(simp only [List.length_append,List.length_cons,List.length_nil];omega)))|((with_reducible refine NCall.isF 115 ?_);refine NCall.subw [0,1,4] _ _ (cc _) rfl (by decide) rfl ?_;rintro _ _ ⟨rfl,rfl⟩;refine ⟨Nat.le_of_ble_eq_true rfl,_,rfl,?_⟩)|((with_reducible refine NCall.isF 117 ?_);refine NCall.subw [0,1,3] _ _ (cd _) rfl (by decide) rfl ?_;rintro _ _ ⟨rfl,rfl⟩;refine ⟨Nat.le_of_ble_eq_true rfl,_,rfl,?_⟩))<;>(conv=>whnf))|(with_reducible first|refine z3 ?_|refine z4 ?_|refine z5 ?_|refine z6 ?_|refine z8 ?_)|((with_reducible refine z29 ?_);intro A B hA hB;(conv=>whnf))|(with_reducible first|refine z1 ?_|refine z2 ?_|refine z12 ?_|refine z13 ?_)|((with_reducible refine gR ?_);(refine z31 rfl ?_;intro K hK;(conv=>whnf)))|((with_reducible refine gF ?_);(refine z33 rfl ?_;intro K hK;(conv=>whnf)))|((intro _;skip)<;>(conv=>whnf))))
   all_goals exact .inr ⟨F,u,F.le_refl,hall2 (⟨xk,xf,xv,xl⟩,u) (by simp),rfl,MemFits.pre 1 rfl⟩
  | x::y::r,hall2 =>
   have hlen:(x::y::r).length=r.length+2:=rfl
   generalize hks:x::y::r=ks at *
   (repeat' (first|(with_reducible first|(refine hK _ _ ?_;clear hK K)|(refine hB ?_;clear hA hB A B)|(refine hK _ ?_;clear hK K))|((with_reducible refine z25 ?_);intro K hK;(conv=>whnf))|(with_reducible refine z0 ?_)|((first|((with_reducible refine NIf.decN ?s ?_);case s=>omega)|((with_reducible refine NIf.no ?s ?_);case s=>rfl)|(with_reducible refine NN.a5 ?_)|((with_reducible refine NH.mk ?s ?_);case s=>(and_intros<;>first|with_reducible rfl|((with_reducible refine gOnes ?_);rfl)|((with_reducible refine gLen ?_);rfl)))|((with_reducible refine NCall.isF 115 ?_);refine NCall.subw [0,1,4] _ _ (cc _) rfl (by decide) rfl ?_;rintro _ _ ⟨rfl,rfl⟩;refine ⟨Nat.le_of_ble_eq_true rfl,_,rfl,?_⟩)|((with_reducible refine NCall.isF 117 ?_);refine NCall.subw [0,1,3] _ _ (cd _) rfl (by decide) rfl ?_;rintro _ _ ⟨rfl,rfl⟩;refine ⟨Nat.le_of_ble_eq_true rfl,_,rfl,?_⟩))<;>(conv=>whnf))|(with_reducible first|refine z3 ?_|refine z4 ?_|refine z5 ?_|refine z6 ?_|refine z8 ?_)|((with_reducible refine z29 ?_);intro A B hA hB;(conv=>whnf))|(with_reducible first|refine z1 ?_|refine z2 ?_|refine z9 ?_)|((with_reducible refine gR ?_);(refine z31 rfl ?_;intro K hK;(conv=>whnf)))|((with_reducible refine gF ?_);(refine z33 rfl ?_;intro K hK;(conv=>whnf)))|((intro _;skip)<;>(conv=>whnf))))
   all_goals
    refine .inl ⟨F,w',ks,F.le_refl,?_,hall2,?_,MemFits.pick [0,1] (by decide) rfl⟩
    ·rw [← hks];rfl
    ·rw [← hks];rfl
theorem truth26_c (b:Bool):NCall Tryz.prog 85 [.bool b] [] fun r _=>r = .agg [.int .i64 (if b then 1 else 2),.int .i64 0,.int .i64 0,.raw (.slice none 0 0)]:=by
 refine ncall_of Tryz.func85 rfl (by decide) ?_
 cases b
 ·(repeat' (first|(with_reducible first|(refine hK _ _ ?_;clear hK K)|(refine hB ?_;clear hA hB A B)|(refine hK _ ?_;clear hK K))|((with_reducible refine z25 ?_);intro K hK;(conv=>whnf))|(with_reducible refine z0 ?_)|((first|((with_reducible refine NIf.no ?s ?_);case s=>rfl)|((with_reducible refine NH.mk ?s ?_);case s=>(and_intros<;>first|with_reducible rfl|((with_reducible refine gOnes ?_);rfl)|((with_reducible refine gLen ?_);rfl))))<;>(conv=>whnf))|(with_reducible first|refine z3 ?_|refine z4 ?_|refine z6 ?_|refine z8 ?_)|((with_reducible refine z29 ?_);intro A B hA hB;(conv=>whnf))|(with_reducible first|refine z1 ?_|refine z2 ?_)|((with_reducible refine gR ?_);(refine z31 rfl ?_;intro K hK;(conv=>whnf)))|((with_reducible refine gF ?_);(refine z33 rfl ?_;intro K hK;(conv=>whnf)))|((intro _;skip)<;>(conv=>whnf))))
  all_goals rfl
 ·(repeat' (first|(with_reducible first|(refine hK _ _ ?_;clear hK K)|(refine hA ?_;clear hA hB A B)|(refine hK _ ?_;clear hK K))|((with_reducible refine z25 ?_);intro K hK;(conv=>whnf))|(with_reducible refine z0 ?_)|((first|((with_reducible refine NIf.yes ?s ?_);case s=>rfl)|((with_reducible refine NH.mk ?s ?_);case s=>(and_intros<;>first|with_reducible rfl|((with_reducible refine gOnes ?_);rfl)|((with_reducible refine gLen ?_);rfl))))<;>(conv=>whnf))|(with_reducible first|refine z3 ?_|refine z4 ?_|refine z8 ?_)|((with_reducible refine z29 ?_);intro A B hA hB;(conv=>whnf))|(with_reducible first|refine z1 ?_|refine z2 ?_|refine z12 ?_)|((with_reducible refine gR ?_);(refine z31 rfl ?_;intro K hK;(conv=>whnf)))|((with_reducible refine gF ?_);(refine z33 rfl ?_;intro K hK;(conv=>whnf)))|((intro _;skip)<;>(conv=>whnf))))
  all_goals rfl
theorem foldcut_c (F:Heap) (k f v out d:Int) (w:Value) (ps:List (Pd.T × Value)) (hn:ps.length≤1000000000000) (hall:∀ p∈ps,Pd.Row F p.2 p.1.l) :
  NCall Tryz.prog 86 [.agg [.int .i64 k,.int .i64 f,.int .i64 v,.sl 1 w ps.length],.int .i64 out,.int .i64 d] [hpB F,⟨addrOf w,Pd.psC ps,.row w 38 4 ps.length⟩] fun r m=>∃ F' u,F.le F'∧Pd.Row F' u (Pd.fold k f v out d (ps.map (·.1))).l∧r = .agg (Pd.cs (Pd.fold k f v out d (ps.map (·.1))) u)∧m=[hpB F',hpB noHeap]:=by
 refine (Pd.out_know (fold26_c F k f v out d w ps hn hall)).fits fun r m' hr=>?_
 obtain ⟨F',u,h1,h2,h3,rfl⟩:=hr
 exact ⟨r,_,rfl,(MemFits.noHeap _).trans (MemFits.pick [1,0] (by decide) rfl),F',u,h1,h2,h3,rfl⟩
theorem cut26_c:∀ (n:Nat) (F:Heap) (p:Pd.T) (u:Value) (sw:Int),Pd.size p≤n→Pd.size p≤1000000000000→Pd.fits p=true→Pd.Row F u p.l →
  NCall Tryz.prog 54 [.agg (Pd.cs p u),.int .i64 sw] [hpB F] fun r m=>Pd.Lays F (Pd.cut sw p) r m
 | 0,F,p,u,sw,hn,_,_,_=>absurd (Pd.size_pos p) (by omega)
 | n+1,F,⟨k,f,v,l⟩,u,sw,hn,hs,hf,hu=>by
  refine Pd.out_know (t:=38) ?_
  have hu:Pd.Row F u l:=hu
  have hok:=hu.ok
  obtain ⟨hsh,hfl⟩:=Pd.fits_mk hf
  have hl12:l.length≤1000000000000:=by have:=Pd.size_mk k f v l;have:=Pd.length_le l;omega
  have hll:=Pd.length_le l
  have ih:∀ G,∀ x∈l,∀ w,Pd.Row G w x.l→NCall Tryz.prog 54 [.agg (Pd.cs x w),.int .i64 sw] [hpB G] fun r m=>Pd.Lays G (Pd.cut sw x) r m:=fun G x hx w hw=>cut26_c n G x w sw (by have:=Pd.size_lt (k:=k) (f:=f) (v:=v) hx;omega) (by have:=Pd.size_lt (k:=k) (f:=f) (v:=v) hx;omega) (hfl x hx) hw
  have ct:=truth26_c
  have hone:∀ y∈l,1≤(Pd.cut sw y).k:=fun y hy=>(Pd.fits_k (Pd.cut_fits sw y (hfl y hy))).1
  rw [pd_cs]
  by_cases h35:k=3∧f=5
  ·obtain ⟨rfl,rfl⟩:=h35
   rw [Pd.cut_sw]
   refine ncall_of Tryz.func54 rfl (by decide) ?_
   have ct:=ct (decide (v=sw))
   simp only [decide_eq_true_eq] at ct
   (repeat' (first|(with_reducible first|(refine hK _ _ ?_;clear hK K)|(refine hA ?_;clear hA hB A B)|(refine hK _ ?_;clear hK K))|((with_reducible first|refine z25 ?_|refine z26 ?_);intro K hK;(conv=>whnf))|(with_reducible refine z0 ?_)|((first|((with_reducible refine NIf.yes ?s ?_);case s=>(simp ;done))|(with_reducible refine NN.a5 ?_)|((with_reducible refine NH.mk ?s ?_);case s=>(and_intros<;>first|with_reducible rfl|((with_reducible refine gOnes ?_);rfl)|((with_reducible refine gLen ?_);rfl)))|((with_reducible refine NCall.isF 85 ?_);refine NCall.pureE (ct) ?_))<;>(conv=>whnf))|(with_reducible first|refine z3 ?_|refine z4 ?_|refine z8 ?_)|((with_reducible refine z29 ?_);intro A B hA hB;(conv=>whnf))|(with_reducible first|refine z1 ?_|refine z2 ?_|refine z12 ?_)|((with_reducible refine gR ?_);(refine z31 rfl ?_;intro K hK;(conv=>whnf)))|((with_reducible refine gF ?_);(refine z33 rfl ?_;intro K hK;(conv=>whnf)))|((intro _;skip)<;>(conv=>whnf))))
   all_goals exact .inr ⟨F,.slice none 0 0,F.le_refl,⟨SlOk.nil,fun k x hx=>by simp [Pd.T.l] at hx⟩,rfl,MemFits.pre 1 rfl⟩
  by_cases h13:k≤3
  ·have hl0:l=[]:=List.eq_nil_of_length_eq_zero (by omega)
   subst hl0
   rw [Pd.cut_no _ _ _ _ h35 (by omega)]
   clear ih hone ct hll
   rw [List.length_nil] at *
   refine ncall_of Tryz.func54 rfl (by decide) ?_
   (repeat' (first|(with_reducible first|(refine hK _ _ ?_;clear hK K)|(refine hB ?_;clear hA hB A B)|(refine hK _ ?_;clear hK K))|((with_reducible first|refine z25 ?_|refine z26 ?_);intro K hK;(conv=>whnf))|(with_reducible refine z0 ?_)|((first|((with_reducible refine NIf.decY ?s ?_);case s=>assumption)|((with_reducible refine NIf.decN ?s ?_);case s=>first|assumption|omega)|((with_reducible refine NIf.no ?s ?_);case s=>rfl)|(with_reducible first|refine NIf.dec (fun _=>?_) (fun _=>?_)|refine NN.a5 ?_)|((with_reducible refine NH.mk ?s ?_);case s=>(and_intros<;>first|with_reducible rfl|((with_reducible refine gOnes ?_);rfl)|((with_reducible refine gLen ?_);rfl)|omega)))<;>(conv=>whnf))|(with_reducible first|refine st_rounds 1 ?_|refine z3 ?_|refine z4 ?_|refine z5 ?_|refine z6 ?_|refine z7 ?_|refine z8 ?_)|((with_reducible refine z29 ?_);intro A B hA hB;(conv=>whnf))|(with_reducible first|refine z1 ?_|refine z2 ?_|refine z9 ?_|refine z10 ?_|refine z11 ?_|refine z22 ?_)|((with_reducible refine gR ?_);(refine z31 rfl ?_;intro K hK;(conv=>whnf)))|((with_reducible refine gF ?_);(refine z33 rfl ?_;intro K hK;(conv=>whnf)))|((intro _;skip)<;>(conv=>whnf))))
   all_goals first
    | exact .inr ⟨F,.slice none 0 0,F.le_refl,⟨SlOk.nil,fun k x hx=>by simp [Pd.T.l] at hx⟩,rfl,MemFits.pre 1 rfl⟩
    | (exfalso;omega)
  refine ncall_of Tryz.func54 rfl (by decide) ?_
  have h3:¬ k=3:=by omega
  (repeat' (first|(with_reducible first|(refine hK _ _ ?_;clear hK K)|(refine hB ?_;clear hA hB A B)|(refine hK _ ?_;clear hK K))|((with_reducible first|refine z25 ?_|refine z26 ?_);intro K hK;(conv=>whnf))|(with_reducible refine z0 ?_)|((first|((with_reducible refine NIf.decN ?s ?_);case s=>assumption)|((with_reducible refine NIf.no ?s ?_);case s=>rfl)|(with_reducible refine NN.a5 ?_)|((with_reducible refine NH.mk ?s ?_);case s=>(and_intros<;>first|with_reducible rfl|((with_reducible refine gOnes ?_);rfl)|((with_reducible refine gLen ?_);rfl)|omega)))<;>(conv=>whnf))|(with_reducible first|refine z3 ?_|refine z4 ?_|refine z5 ?_|refine z6 ?_)|((with_reducible refine z29 ?_);intro A B hA hB;(conv=>whnf))|(with_reducible first|refine z1 ?_|refine z2 ?_)|((with_reducible refine gF ?_);(refine z33 rfl ?_;intro K hK;(conv=>whnf)))|((intro _;skip)<;>(conv=>whnf))))
  refine st_auto (α:=Heap × Value × List (Pd.T × Value)) (fun (G,w,ps)=>F.le G∧ps.map (·.1)=(l.take ps.length).map (Pd.cut sw)∧ps.length≤l.length∧∀ p∈ps,Pd.Row G p.2 p.1.l) (fun (G,w,ps)=>[.keep,.keep,.keep,.keep,.keep,.keep,.keep,.drop,.keep,.keep,.keep,.keep,.keep,.keep,.keep,.keep,.keep,.keep,.keep,.keep,.keep,.keep,.keep,.keep,.keep,.keep,.keep,.keep,.keep,.keep,.keep,.set (.int .i64 ps.length),.drop,.drop,.drop,.drop,.drop,.drop,.drop,.drop,.drop,.drop,.drop,.drop,.keep,.keep,.keep,.keep,.keep,.keep,.keep,.keep,.keep,.keep,.keep,.keep,.keep,.keep,.keep,.keep,.keep,.keep,.keep,.keep,.keep,.keep,.keep,.keep,.keep,.keep,.keep,.keep,.keep,.keep,.keep,.keep])
   (fun (G,w,ps)=>[.set (hpB G),.keep,.keep,.cells [.int .i64 k,.int .i64 f,.int .i64 v,.sl 4 w ps.length],.set ⟨addrOf w,Pd.psC ps,.row w 38 4 ps.length⟩]) (fun (G,w,ps)=>l.length - ps.length) (F,.slice none 0 0,[]) ⟨F.le_refl,rfl,Nat.zero_le _,fun p hp=>by simp at hp⟩ ?_ ((MemFits.nilRow _ 38 4).trans (MemFits.congr rfl)) ?_
  ·repeat (first|exact FitsSl.nil|refine FitsSl.any ?_|refine FitsSl.cons (Fit1.int (by first | rfl | omega)) ?_|refine FitsSl.cons (Fit1.bool rfl) ?_|refine FitsSl.cons (Fit1.same (by intro h;cases h) (by with_reducible rfl)) ?_)
  (intro ⟨G,w,ps⟩ ⟨hle,hmap,hlen,hall⟩;intro K hK;(conv=>whnf);refine hK _ _ ?_;clear hK K)
  dsimp only
  generalize hk:ps.length=i at *
  by_cases hlt:i<l.length
  ·have hx:l[i]?=some l[i]:=List.getElem?_eq_getElem hlt
   obtain ⟨A,cap,hA,c0,c1,c2,c3⟩:=(Pd.Row.mono hle hu).get hx
   have hmem:=List.mem_of_getElem? hx
   have c:=ih G _ hmem _ hA
   have hnx:(l.take (i+1)).map (Pd.cut sw)=(l.take i).map (Pd.cut sw)++[Pd.cut sw l[i]]:=by rw [List.take_add_one,hx,List.map_append];rfl
   clear ih
   generalize Pd.cut sw l[i]=y at *
   generalize l[i]=x at *
   have hpl:=Pd.psC_len ps
   have hpn:=Pd.psC_next ps
   generalize hpc:Pd.psC ps=pc at *
   obtain ⟨xk,xf,xv,xl⟩:=x
   obtain ⟨yk,yf,yv,yl⟩:=y
   simp only [Pd.Lays,Pd.cs,Pd.T.k,Pd.T.f,Pd.T.v,Pd.T.l] at c c0 c1 c2 c3 hA
   (repeat' (first|(with_reducible first|(refine hK _ _ ?_;clear hK K)|(refine hA ?_;clear hA hB A B)|(refine hK _ ?_;clear hK K))|((with_reducible refine z25 ?_);intro K hK;(conv=>whnf))|(with_reducible refine z0 ?_)|((first|((with_reducible refine NV.i64 ?s ?_);case s=>omega)|((with_reducible refine NIf.decY ?s ?_);case s=>omega)|(with_reducible first|refine NN.cast ?_|refine NN.a5 ?_|refine NN.keep ?_)|((with_reducible refine NH.mk ?s ?_);case s=>(and_intros<;>first|with_reducible rfl|((with_reducible refine gOnes ?_);rfl)|((with_reducible refine gLen ?_);rfl)|omega))|((with_reducible refine NCall.isF 54 ?_);refine NCall.subw [0] _ _ (c) rfl (by decide) rfl ?_;rintro _ _ ⟨G',w',hle2,hrow,rfl,rfl⟩;refine ⟨Nat.le_of_ble_eq_true rfl,_,rfl,?_⟩)|(with_reducible refine NLd.of (by with_reducible assumption) ?_))<;>(conv=>whnf))|((with_reducible refine gNO ?_);(first|(refine z36 rfl (by kernel_rfl) ?_;intro K hK;(conv=>whnf))|refine z38 rfl (by kernel_rfl) ?_|refine z39 rfl rfl (by kernel_rfl) (by intro h;cases h) ?_))|((with_reducible refine gNE ?_);(first|(refine z40 ?_ ?_;(intro K hK;(conv=>whnf)))|exact z42))|((with_reducible refine gX ?_);(first|refine z35 (by kernel_rfl) _ rfl ?_|(with_reducible first|refine z3 ?_|refine z4 ?_|refine z5 ?_|refine z6 ?_)|((with_reducible refine z29 ?_);intro A B hA hB;(conv=>whnf))))|(with_reducible first|refine z1 ?_|refine z2 ?_|refine z9 ?_)|((intro _;skip)<;>(conv=>whnf))))
   all_goals
    rename_i v9
    refine st_round (G',v9,ps++[(⟨yk,yf,yv,yl⟩,w')]) ⟨hle.trans hle2,by rw [List.map_append,hmap,List.length_append,hk];exact hnx.symm,by rw [List.length_append,hk];exact hlt,fun x hx=>?_⟩ (by rw [List.length_append,hk];show l.length - (i+1)<l.length - i;omega) ?_ (MemFits.pre 5 ?_)
    ·rcases List.mem_append.1 hx with hx | hx
     ·exact Pd.Row.mono hle2 (hall x hx)
     ·rw [List.mem_singleton.1 hx];exact hrow
    ·simp only [List.length_append,hk]
     repeat (first|exact FitsSl.nil|refine FitsSl.any ?_|refine FitsSl.cons (Fit1.int (by first | rfl | omega)) ?_|refine FitsSl.cons (Fit1.bool rfl) ?_|refine FitsSl.cons (Fit1.same (by intro h;cases h) (by with_reducible rfl)) ?_)
    ·simp only [autoM,List.take,List.length_append,hk,hpn]
     rw [show i+[((⟨yk,yf,yv,yl⟩:Pd.T),w')].length=i+1 from rfl]
     rfl
  ·have hkl:i=l.length:=by omega
   subst hkl
   rw [List.take_length] at hmap
   have hk5:k=5∨k=6→f=0∧v=0:=fun h=>by omega
   have hl1:k=4→f=0∧v=0∧l.length=1:=fun h=>by omega
   have hk456:k=4∨k=5∨k=6:=by omega
   clear ih hsh hn
   by_cases h5:k=5
   ·subst h5
    obtain ⟨rfl,rfl⟩:=hk5 (.inl rfl)
    clear hk5 hl1 hk456 h35 h13 h3
    have cf:=foldcut_c G 5 0 0 1 2 w ps (by omega) hall
    rw [Pd.cut_5,← hmap]
    rw [hk] at cf
    generalize Pd.fold 5 0 0 1 2 (ps.map (·.1))=y at *
    obtain ⟨yk,yf,yv,yl⟩:=y
    simp only [Pd.cs,Pd.T.k,Pd.T.f,Pd.T.v,Pd.T.l] at cf
    (repeat' (first|(with_reducible first|(refine hK _ _ ?_;clear hK K)|(refine hA ?_;clear hA hB A B)|(refine hB ?_;clear hA hB A B)|(refine hK _ ?_;clear hK K))|((with_reducible refine z25 ?_);intro K hK;(conv=>whnf))|(with_reducible refine z0 ?_)|((first|((with_reducible refine NIf.decY ?s ?_);case s=>with_reducible rfl)|((with_reducible refine NIf.decN ?s ?_);case s=>omega)|(with_reducible refine NN.a5 ?_)|((with_reducible refine NH.mk ?s ?_);case s=>(and_intros<;>first|with_reducible rfl|((with_reducible refine gOnes ?_);rfl)|((with_reducible refine gLen ?_);rfl)))|((with_reducible refine NCall.isF 86 ?_);refine NCall.subw [0,4] _ _ (cf) rfl (by decide) rfl ?_;rintro _ _ ⟨F',w',hle2,hrow,rfl,rfl⟩;refine ⟨Nat.le_of_ble_eq_true rfl,_,rfl,?_⟩))<;>(conv=>whnf))|(with_reducible first|refine z3 ?_|refine z4 ?_|refine z5 ?_|refine z7 ?_|refine z8 ?_)|((with_reducible refine z29 ?_);intro A B hA hB;(conv=>whnf))|(with_reducible first|refine z1 ?_|refine z2 ?_|refine z10 ?_|refine z11 ?_|refine z12 ?_|refine z13 ?_|refine z19 ?_)|((with_reducible refine gR ?_);(refine z31 rfl ?_;intro K hK;(conv=>whnf)))))
    all_goals exact .inr ⟨F',w',hle.trans hle2,hrow,rfl,MemFits.pre 1 rfl⟩
   by_cases h6:k=6
   ·subst h6
    obtain ⟨rfl,rfl⟩:=hk5 (.inr rfl)
    clear hk5 hl1 hk456 h35 h13 h3 h5
    have cf:=foldcut_c G 6 0 0 2 1 w ps (by omega) hall
    rw [Pd.cut_6,← hmap]
    rw [hk] at cf
    generalize Pd.fold 6 0 0 2 1 (ps.map (·.1))=y at *
    obtain ⟨yk,yf,yv,yl⟩:=y
    simp only [Pd.cs,Pd.T.k,Pd.T.f,Pd.T.v,Pd.T.l] at cf
    (repeat' (first|(with_reducible first|(refine hK _ _ ?_;clear hK K)|(refine hA ?_;clear hA hB A B)|(refine hB ?_;clear hA hB A B)|(refine hK _ ?_;clear hK K))|((with_reducible refine z25 ?_);intro K hK;(conv=>whnf))|(with_reducible refine z0 ?_)|((first|((with_reducible refine NIf.decY ?s ?_);case s=>with_reducible rfl)|((with_reducible refine NIf.decN ?s ?_);case s=>omega)|(with_reducible refine NN.a5 ?_)|((with_reducible refine NH.mk ?s ?_);case s=>(and_intros<;>first|with_reducible rfl|((with_reducible refine gOnes ?_);rfl)|((with_reducible refine gLen ?_);rfl)))|((with_reducible refine NCall.isF 86 ?_);refine NCall.subw [0,4] _ _ (cf) rfl (by decide) rfl ?_;rintro _ _ ⟨F',w',hle2,hrow,rfl,rfl⟩;refine ⟨Nat.le_of_ble_eq_true rfl,_,rfl,?_⟩))<;>(conv=>whnf))|(with_reducible first|refine z3 ?_|refine z4 ?_|refine z5 ?_|refine z7 ?_|refine z8 ?_)|((with_reducible refine z29 ?_);intro A B hA hB;(conv=>whnf))|(with_reducible first|refine z1 ?_|refine z2 ?_|refine z10 ?_|refine z11 ?_|refine z12 ?_|refine z13 ?_|refine z19 ?_)|((with_reducible refine gR ?_);(refine z31 rfl ?_;intro K hK;(conv=>whnf)))))
    all_goals exact .inr ⟨F',w',hle.trans hle2,hrow,rfl,MemFits.pre 1 rfl⟩
   by_cases h4:k=4
   ·subst h4
    obtain ⟨rfl,rfl,hl1⟩:=hl1 rfl
    clear hk5 hk456 h35 h13 h3 h5 h6
    match l,hl1,ps,hk,hmap with
    | [q],_,[(⟨yk,yf,yv,yl⟩,w')],_,hmap =>
     have hc:Pd.cut sw q=⟨yk,yf,yv,yl⟩:=by simpa using hmap.symm
     have h1:=hone q (by simp)
     rw [Pd.cut_4,hc]
     rw [hc] at h1
     have hps:Pd.psC [((⟨yk,yf,yv,yl⟩:Pd.T),w')]=[.int .i64 yk,.int .i64 yf,.int .i64 yv,.hs w' yl.length]:=rfl
     rw [hps]
     simp only [Pd.T.k] at h1
     by_cases hy:yk≤2
     ·rw [if_pos (show (Pd.T.mk yk yf yv yl).k≤2 from hy)]
      have ct:=ct (decide (yk=2))
      simp only [decide_eq_true_eq] at ct
      (repeat' (first|(with_reducible first|(refine hK _ _ ?_;clear hK K)|(refine hA ?_;clear hA hB A B)|(refine hB ?_;clear hA hB A B)|(refine hK _ ?_;clear hK K))|((with_reducible first|refine z25 ?_|refine z26 ?_);intro K hK;(conv=>whnf))|(with_reducible refine z0 ?_)|((first|((with_reducible refine NIf.decY ?s ?_);case s=>first|with_reducible rfl|assumption)|((with_reducible refine NIf.decN ?s ?_);case s=>omega)|(with_reducible first|refine NN.lit ?_|refine NN.a5 ?_|refine NN.a6 ?_)|((with_reducible refine NH.mk ?s ?_);case s=>(and_intros<;>first|with_reducible rfl|((with_reducible refine gOnes ?_);rfl)|((with_reducible refine gLen ?_);rfl)|omega))|((with_reducible refine NCall.isF 85 ?_);refine NCall.pureE (ct) ?_))<;>(conv=>whnf))|(with_reducible first|refine z3 ?_|refine z4 ?_|refine z5 ?_|refine z7 ?_|refine z8 ?_)|((with_reducible refine z29 ?_);intro A B hA hB;(conv=>whnf))|(with_reducible first|refine z1 ?_|refine z2 ?_|refine z10 ?_|refine z11 ?_|refine z12 ?_|refine z13 ?_|refine z19 ?_)|((with_reducible refine gR ?_);(refine z31 rfl ?_;intro K hK;(conv=>whnf)))))
      all_goals exact .inr ⟨G,.slice none 0 0,hle,⟨SlOk.nil,fun k x hx=>by simp [Pd.T.l] at hx⟩,rfl,MemFits.pre 1 rfl⟩
     ·rw [if_neg (show ¬ (Pd.T.mk yk yf yv yl).k≤2 from hy)]
      (repeat' (first|(with_reducible first|(refine hK _ _ ?_;clear hK K)|(refine hB ?_;clear hA hB A B)|(refine hK _ ?_;clear hK K))|((with_reducible first|refine z25 ?_|refine z26 ?_);intro K hK;(conv=>whnf))|(with_reducible refine z0 ?_)|((first|((with_reducible refine NIf.decY ?s ?_);case s=>with_reducible rfl)|((with_reducible refine NIf.decN ?s ?_);case s=>first|assumption|omega)|(with_reducible first|refine NN.lit ?_|refine NN.a5 ?_|refine NN.a6 ?_)|((with_reducible refine NH.mk ?s ?_);case s=>(and_intros<;>first|with_reducible rfl|((with_reducible refine gOnes ?_);rfl)|((with_reducible refine gLen ?_);rfl)|omega)))<;>(conv=>whnf))|(with_reducible first|refine z3 ?_|refine z4 ?_|refine z5 ?_|refine z6 ?_|refine z7 ?_|refine z8 ?_)|((with_reducible refine z29 ?_);intro A B hA hB;(conv=>whnf))|(with_reducible first|refine z1 ?_|refine z2 ?_|refine z9 ?_|refine z10 ?_|refine z11 ?_|refine z19 ?_)|((with_reducible refine gR ?_);(refine z31 rfl ?_;intro K hK;(conv=>whnf)))))
      all_goals exact .inl ⟨G,w,[(⟨yk,yf,yv,yl⟩,w')],hle,rfl,hall,rfl,MemFits.pick [0,4] (by decide) rfl⟩
   ·exfalso;omega
namespace Po
theorem psC_cons (p:L) (ps:List L):psC (p::ps)=cs p.x p.pu p.u++psC ps:=rfl
def Out (F:Heap) (t:TypeId) (X:T) (v:AV) (m:List Blk):Prop :=
 Got F t X v m∨∃ G pu u,F.le G∧At G X pu u∧v.den=(AV.agg (cs X pu u)).den∧MemFits m [hpB G]
theorem out_know {f:FuncId} {args:List AV} {F:Heap} {t:TypeId} {m:List Blk} {X:T} (h:NCall Tryz.prog f args m fun v m'=>Out F t X v m') :
  NCall Tryz.prog f args m fun v m'=>Lays F X v m':=by
 refine Go.Sx.NCall.know h fun r m' hq ⟨w,hw⟩=>?_
 rcases hq with ⟨G,pu,u,ps,hle,hmap,hall,hpr,hr,hm⟩ | ⟨G,pu,u,hle,hat,hr,hm⟩
 ·have hok:=((hm w hw).1.row (List.mem_cons_of_mem _ (List.mem_cons_self ..))).1
  have hrow:=rowF_new (F:=G) (sz:=8) (enc:=psV) hok (psC_den ps) (fun x _=>rfl)
  refine ⟨_,_,hr.symm,hm.trans (MemFits.freeze (m:=[])),_,pu,u,hle.trans addF.old,⟨Pd.Row.mono addF.old hpr,?_⟩,rfl,rfl⟩
  rw [← hmap]
  exact row_of hrow fun p hp=>At.mono addF.old (hall p hp)
 ·exact ⟨_,_,hr.symm,hm,G,pu,u,hle,hat,rfl,rfl⟩
theorem nilRow (F:Heap):Row F (.slice .none 0 0) []:=⟨SlOk.nil,fun k x hx=>by simp at hx⟩
end Po
theorem Pd.nilRow (F:Heap):Pd.Row F (.slice .none 0 0) []:=⟨SlOk.nil,fun k x hx=>by simp at hx⟩
theorem at27_out (F:Heap) (k f v:Int) (p:Pd.T) (l:List Po.T) (pu u:Value) (sw:Int) (hkk:¬ (k=1∨k=5)) (hs:Pd.size p≤1000000000000) (hl:l.length≤8) (h5:k=5→l.length=2) (hpf:(k=1∨k=5)→Pd.fits p=true) (hu:Po.Row F u l) (hpu:Pd.Row F pu p.l)
  (ih:∀ G,∀ y∈l,∀ pw w,Po.At G y pw w→NCall Tryz.prog 24 [.agg (Po.cs y pw w),.int .i64 sw] [hpB G] fun r m=>Po.Lays G (Po.spec sw y) r m) :
  NCall Tryz.prog 24 [.agg (Po.cs (.mk k p f v l) pu u),.int .i64 sw] [hpB F] fun r m=>Po.Out F 41 (Po.spec sw (.mk k p f v l)) r m:=by
 have hok:=hu.ok
 have hpok:=hpu.ok
 rw [Po.spec_mk,if_neg (fun h=>hkk (.inr h.1)),if_neg hkk]
 rw [po_cs]
 have hk1:¬ k=1:=fun h=>hkk (.inl h)
 have hk5:¬ k=5:=fun h=>hkk (.inr h)
 clear hpf h5 hkk
 obtain ⟨pk,pf,pv,pl⟩:=p
 simp only [pd_cs,Pd.T.k,Pd.T.f,Pd.T.v,Pd.T.l] at *
 refine ncall_of Tryz.func24 rfl (by decide) ?_
 (repeat' (first|(with_reducible first|(refine hK _ _ ?_;clear hK K)|(refine hB ?_;clear hA hB A B)|(refine hK _ ?_;clear hK K))|((with_reducible first|refine z25 ?_|refine z26 ?_);intro K hK;(conv=>whnf))|(with_reducible refine z0 ?_)|((first|((with_reducible refine NIf.decN ?s ?_);case s=>assumption)|(with_reducible refine NN.a5 ?_)|((with_reducible refine NH.mk ?s ?_);case s=>(and_intros<;>first|with_reducible rfl|((with_reducible refine gOnes ?_);rfl)|((with_reducible refine gLen ?_);rfl)|omega)))<;>(conv=>whnf))|(with_reducible first|refine z3 ?_|refine z4 ?_|refine z5 ?_|refine z6 ?_)|((with_reducible refine z29 ?_);intro A B hA hB;(conv=>whnf))|(with_reducible first|refine z1 ?_|refine z2 ?_)|((with_reducible refine gF ?_);(refine z33 rfl ?_;intro K hK;(conv=>whnf)))|((intro _;skip)<;>(conv=>whnf))))
 all_goals
  refine st_auto (α:=Heap × Value × List Po.L) (fun (G,w,ps)=>F.le G∧ps.map (·.x)=(l.take ps.length).map (Po.spec sw)∧ps.length≤l.length∧∀ p∈ps,Po.At G p.x p.pu p.u) (fun (G,w,ps)=>[.keep,.keep,.keep,.keep,.keep,.keep,.keep,.drop,.keep,.keep,.keep,.keep,.keep,.keep,.keep,.keep,.keep,.keep,.keep,.keep,.keep,.keep,.keep,.keep,.keep,.keep,.keep,.keep,.keep,.keep,.keep,.set (.int .i64 ps.length),.drop,.drop,.drop,.drop,.drop,.drop,.drop,.drop,.drop,.drop,.drop,.drop,.keep,.keep,.keep,.keep,.keep,.keep,.keep,.keep,.keep,.keep,.keep,.keep,.keep,.keep,.keep,.keep,.keep,.keep])
   (fun (G,w,ps)=>[.set (hpB G),.keep,.keep,.cells [.int .i64 k,.int .i64 0,.int .i64 0,.int .i64 0,.raw (.slice .none 0 0),.int .i64 f,.int .i64 v,.sl 4 w ps.length],.set ⟨addrOf w,Po.psC ps,.row w 41 8 ps.length⟩]) (fun (G,w,ps)=>l.length - ps.length) (F,.slice .none 0 0,[]) ⟨F.le_refl,rfl,Nat.zero_le _,fun p hp=>by simp at hp⟩ ?_ ((MemFits.nilRow _ 41 8).trans (MemFits.congr rfl)) ?_
  ·repeat (first|exact FitsSl.nil|refine FitsSl.any ?_|refine FitsSl.cons (Fit1.int (by first | rfl | omega)) ?_|refine FitsSl.cons (Fit1.bool rfl) ?_|refine FitsSl.cons (Fit1.same (by intro h;cases h) (by with_reducible rfl)) ?_)
  (intro ⟨G,w,ps⟩ ⟨hle,hmap,hlen,hall⟩;intro K hK;(conv=>whnf);refine hK _ _ ?_;clear hK K)
  dsimp only
  generalize hk:ps.length=i at *
  by_cases hlt:i<l.length
  ·have hx:l[i]?=some l[i]:=List.getElem?_eq_getElem hlt
   obtain ⟨pA,pcap,A,cap,hA,c0,c1,c2,c3,c4,c5,c6,c7⟩:=(Po.Row.mono hle hu).get hx
   have hAo:=hA.l.ok
   have hAp:=hA.p.ok
   have hmem:=List.mem_of_getElem? hx
   have c:=ih G _ hmem _ _ hA
   have hnx:(l.take (i+1)).map (Po.spec sw)=(l.take i).map (Po.spec sw)++[Po.spec sw l[i]]:=by rw [List.take_add_one,hx,List.map_append];rfl
   clear ih
   generalize Po.spec sw l[i]=z at *
   generalize l[i]=y at *
   have hpl:=Po.psC_len ps
   have hpn:=Po.psC_next ps
   generalize hpc:Po.psC ps=pc at *
   obtain ⟨yk,⟨ypk,ypf,ypv,ypl⟩,yf,yv,yl⟩:=y
   obtain ⟨zk,⟨zpk,zpf,zpv,zpl⟩,zf,zv,zl⟩:=z
   simp only [Po.Lays,Po.cs,Po.T.k,Po.T.p,Po.T.f,Po.T.v,Po.T.l,Pd.T.k,Pd.T.f,Pd.T.v,Pd.T.l] at c c0 c1 c2 c3 c4 c5 c6 c7 hAo hAp
   (repeat' (first|(with_reducible first|(refine hK _ _ ?_;clear hK K)|(refine hA ?_;clear hA hB A B)|(refine hK _ ?_;clear hK K))|((with_reducible refine z25 ?_);intro K hK;(conv=>whnf))|(with_reducible refine z0 ?_)|((first|((with_reducible refine NV.i64 ?s ?_);case s=>omega)|((with_reducible refine NIf.decY ?s ?_);case s=>omega)|(with_reducible first|refine NN.cast ?_|refine NN.a5 ?_|refine NN.keep ?_)|((with_reducible refine NH.mk ?s ?_);case s=>(and_intros<;>first|with_reducible rfl|((with_reducible refine gOnes ?_);rfl)|((with_reducible refine gLen ?_);rfl)|omega))|((with_reducible refine NCall.isF 24 ?_);refine NCall.subw [0] _ _ (c) rfl (by decide) rfl ?_;rintro _ _ ⟨G',pw',w',hle2,hrow,rfl,rfl⟩;refine ⟨Nat.le_of_ble_eq_true rfl,_,rfl,?_⟩)|(with_reducible refine NLd.of (by with_reducible assumption) ?_))<;>(conv=>whnf))|((with_reducible refine gNO ?_);(first|(refine z36 rfl (by kernel_rfl) ?_;intro K hK;(conv=>whnf))|refine z38 rfl (by kernel_rfl) ?_|refine z39 rfl rfl (by kernel_rfl) (by intro h;cases h) ?_))|((with_reducible refine gNE ?_);(first|(refine z40 ?_ ?_;(intro K hK;(conv=>whnf)))|exact z42))|((with_reducible refine gX ?_);(first|refine z35 (by kernel_rfl) _ rfl ?_|(with_reducible first|refine z3 ?_|refine z4 ?_|refine z5 ?_|refine z6 ?_)|((with_reducible refine z29 ?_);intro A B hA hB;(conv=>whnf))))|(with_reducible first|refine z1 ?_|refine z2 ?_|refine z9 ?_)|((intro _;skip)<;>(conv=>whnf))))
   all_goals
    rename_i v9
    refine st_round (G',v9,ps++[⟨.mk zk (.mk zpk zpf zpv zpl) zf zv zl,pw',w'⟩]) ⟨hle.trans hle2,by rw [List.map_append,hmap,List.length_append,hk];exact hnx.symm,by rw [List.length_append,hk];exact hlt,fun x hx=>?_⟩ (by rw [List.length_append,hk];show l.length - (i+1)<l.length - i;omega) ?_ (MemFits.pre 5 ?_)
    ·rcases List.mem_append.1 hx with hx | hx
     ·exact Po.At.mono hle2 (hall x hx)
     ·rw [List.mem_singleton.1 hx];exact hrow
    ·simp only [List.length_append,hk]
     repeat (first|exact FitsSl.nil|refine FitsSl.any ?_|refine FitsSl.cons (Fit1.int (by first | rfl | omega)) ?_|refine FitsSl.cons (Fit1.bool rfl) ?_|refine FitsSl.cons (Fit1.same (by intro h;cases h) (by with_reducible rfl)) ?_)
    ·simp only [autoM,List.take,List.length_append,hk,hpn]
     rw [show i+[(⟨.mk zk (.mk zpk zpf zpv zpl) zf zv zl,pw',w'⟩:Po.L)].length=i+1 from rfl]
     rfl
  ·have hkl:i=l.length:=by omega
   subst hkl
   rw [List.take_length] at hmap
   clear ih
   (repeat' (first|(with_reducible first|(refine hK _ _ ?_;clear hK K)|(refine hB ?_;clear hA hB A B)|(refine hK _ ?_;clear hK K))|((with_reducible first|refine z25 ?_|refine z26 ?_);intro K hK;(conv=>whnf))|(with_reducible refine z0 ?_)|((first|((with_reducible refine NIf.decN ?s ?_);case s=>first|assumption|omega)|((with_reducible refine NIf.no ?s ?_);case s=>rfl)|(with_reducible refine NN.a5 ?_)|((with_reducible refine NH.mk ?s ?_);case s=>(and_intros<;>first|with_reducible rfl|((with_reducible refine gOnes ?_);rfl)|((with_reducible refine gLen ?_);rfl))))<;>(conv=>whnf))|(with_reducible first|refine z3 ?_|refine z4 ?_|refine z6 ?_|refine z7 ?_|refine z8 ?_)|((with_reducible refine z29 ?_);intro A B hA hB;(conv=>whnf))|(with_reducible first|refine z1 ?_|refine z2 ?_|refine z10 ?_|refine z11 ?_|refine z19 ?_)|((with_reducible refine gR ?_);(refine z31 rfl ?_;intro K hK;(conv=>whnf)))))
   all_goals exact .inl ⟨G,.slice .none 0 0,w,ps,hle,hmap,hall,Pd.nilRow G,by simp only [Po.cs,Po.T.k,Po.T.p,Po.T.f,Po.T.v,Po.T.l,Pd.T.k,Pd.T.f,Pd.T.v,Pd.T.l,List.length_map];rfl,by rw [hk];exact MemFits.pick [0,4] (by decide) rfl⟩
theorem at27_in1 (F:Heap) (k f v:Int) (p:Pd.T) (l:List Po.T) (pu u:Value) (sw:Int) (hkk:k=1) (hs:Pd.size p≤1000000000000) (hl:l.length≤8) (h5:k=5→l.length=2) (hpf:(k=1∨k=5)→Pd.fits p=true) (hu:Po.Row F u l) (hpu:Pd.Row F pu p.l)
  (ih:∀ G,∀ y∈l,∀ pw w,Po.At G y pw w→NCall Tryz.prog 24 [.agg (Po.cs y pw w),.int .i64 sw] [hpB G] fun r m=>Po.Lays G (Po.spec sw y) r m) :
  NCall Tryz.prog 24 [.agg (Po.cs (.mk k p f v l) pu u),.int .i64 sw] [hpB F] fun r m=>Po.Out F 41 (Po.spec sw (.mk k p f v l)) r m:=by
 have hok:=hu.ok
 have hpok:=hpu.ok
 have hk15:k=1∨k=5:=by omega
 have cp:=cut26_c _ F p pu sw (Nat.le_refl _) hs (hpf hk15) hpu
 have hq0:=Pd.fits_k (Pd.cut_fits sw p (hpf hk15))
 have hX1:k=5→(Pd.cut sw p).k≤2→Po.spec sw (.mk k p f v l)=(l.map (Po.spec sw))[((Pd.cut sw p).k - 1).toNat]?.getD Po.zero:=fun h1 h2=>by rw [Po.spec_mk,if_pos ⟨h1,h2⟩]
 have hX2:¬ (k=5∧(Pd.cut sw p).k≤2)→Po.spec sw (.mk k p f v l) = .mk k (Pd.cut sw p) f v (l.map (Po.spec sw)):=fun h=>by rw [Po.spec_mk,if_neg h,if_pos hk15]
 generalize Po.spec sw (.mk k p f v l)=X at *
 generalize Pd.cut sw p=q at *
 rw [po_cs]
 clear hpf hk15
 obtain ⟨pk,pf,pv,pl⟩:=p
 obtain ⟨qk,qf,qv,ql⟩:=q
 simp only [Pd.Lays,pd_cs,Pd.T.k,Pd.T.f,Pd.T.v,Pd.T.l] at *
 subst hkk
 refine ncall_of Tryz.func24 rfl (by decide) ?_
 (repeat' (first|(with_reducible first|(refine hK _ _ ?_;clear hK K)|(refine hA ?_;clear hA hB A B)|(refine hK _ ?_;clear hK K))|((with_reducible first|refine z25 ?_|refine z26 ?_);intro K hK;(conv=>whnf))|(with_reducible refine z0 ?_)|((first|((with_reducible refine NIf.decY ?s ?_);case s=>with_reducible rfl)|((with_reducible refine NIf.yes ?s ?_);case s=>rfl)|(with_reducible refine NN.a5 ?_)|((with_reducible refine NH.mk ?s ?_);case s=>(and_intros<;>first|with_reducible rfl|((with_reducible refine gOnes ?_);rfl)|((with_reducible refine gLen ?_);rfl)|omega))|((with_reducible refine NCall.isF 54 ?_);refine NCall.subw [0] _ _ (cp) rfl (by decide) rfl ?_;rintro _ _ ⟨F1,pu1,hle1,hpu1,rfl,rfl⟩;refine ⟨Nat.le_of_ble_eq_true rfl,_,rfl,?_⟩))<;>(conv=>whnf))|(with_reducible first|refine z3 ?_|refine z4 ?_|refine z5 ?_)|((with_reducible refine z29 ?_);intro A B hA hB;(conv=>whnf))|(with_reducible first|refine z1 ?_|refine z2 ?_)|((with_reducible refine gF ?_);(refine z33 rfl ?_;intro K hK;(conv=>whnf)))|((intro _;skip)<;>(conv=>whnf))))
 all_goals
  have hpok1:=hpu1.ok
  refine st_auto (α:=Heap × Value × List Po.L) (fun (G,w,ps)=>F1.le G∧ps.map (·.x)=(l.take ps.length).map (Po.spec sw)∧ps.length≤l.length∧∀ p∈ps,Po.At G p.x p.pu p.u) (fun (G,w,ps)=>[.keep,.keep,.keep,.keep,.keep,.keep,.keep,.drop,.keep,.keep,.keep,.keep,.keep,.keep,.keep,.keep,.keep,.keep,.keep,.keep,.keep,.keep,.keep,.keep,.keep,.keep,.keep,.keep,.keep,.keep,.keep,.set (.int .i64 ps.length),.drop,.drop,.drop,.drop,.drop,.drop,.drop,.drop,.drop,.drop,.drop,.drop,.keep,.keep,.keep,.keep,.keep,.keep,.keep,.keep,.keep,.keep,.keep,.keep,.keep,.keep,.keep,.keep,.keep,.keep])
   (fun (G,w,ps)=>[.set (hpB G),.keep,.keep,.cells [.int .i64 1,.int .i64 qk,.int .i64 qf,.int .i64 qv,.hs pu1 ql.length,.int .i64 f,.int .i64 v,.sl 4 w ps.length],.set ⟨addrOf w,Po.psC ps,.row w 41 8 ps.length⟩]) (fun (G,w,ps)=>l.length - ps.length) (F1,.slice .none 0 0,[]) ⟨F1.le_refl,rfl,Nat.zero_le _,fun p hp=>by simp at hp⟩ ?_ ((MemFits.nilRow _ 41 8).trans (MemFits.congr rfl)) ?_
  ·repeat (first|exact FitsSl.nil|refine FitsSl.any ?_|refine FitsSl.cons (Fit1.int (by first | rfl | omega)) ?_|refine FitsSl.cons (Fit1.bool rfl) ?_|refine FitsSl.cons (Fit1.same (by intro h;cases h) (by with_reducible rfl)) ?_)
  (intro ⟨G,w,ps⟩ ⟨hle,hmap,hlen,hall⟩;intro K hK;(conv=>whnf);refine hK _ _ ?_;clear hK K)
  dsimp only
  generalize hk:ps.length=i at *
  by_cases hlt:i<l.length
  ·have hx:l[i]?=some l[i]:=List.getElem?_eq_getElem hlt
   obtain ⟨pA,pcap,A,cap,hA,c0,c1,c2,c3,c4,c5,c6,c7⟩:=(Po.Row.mono (hle1.trans hle) hu).get hx
   have hAo:=hA.l.ok
   have hAp:=hA.p.ok
   have hmem:=List.mem_of_getElem? hx
   have c:=ih G _ hmem _ _ hA
   have hnx:(l.take (i+1)).map (Po.spec sw)=(l.take i).map (Po.spec sw)++[Po.spec sw l[i]]:=by rw [List.take_add_one,hx,List.map_append];rfl
   clear ih
   generalize Po.spec sw l[i]=z at *
   generalize l[i]=y at *
   have hpl:=Po.psC_len ps
   have hpn:=Po.psC_next ps
   generalize hpc:Po.psC ps=pc at *
   obtain ⟨yk,⟨ypk,ypf,ypv,ypl⟩,yf,yv,yl⟩:=y
   obtain ⟨zk,⟨zpk,zpf,zpv,zpl⟩,zf,zv,zl⟩:=z
   simp only [Po.Lays,Po.cs,Po.T.k,Po.T.p,Po.T.f,Po.T.v,Po.T.l,Pd.T.k,Pd.T.f,Pd.T.v,Pd.T.l] at c c0 c1 c2 c3 c4 c5 c6 c7 hAo hAp
   (repeat' (first|(with_reducible first|(refine hK _ _ ?_;clear hK K)|(refine hA ?_;clear hA hB A B)|(refine hK _ ?_;clear hK K))|((with_reducible refine z25 ?_);intro K hK;(conv=>whnf))|(with_reducible refine z0 ?_)|((first|((with_reducible refine NV.i64 ?s ?_);case s=>omega)|((with_reducible refine NIf.decY ?s ?_);case s=>omega)|(with_reducible first|refine NN.cast ?_|refine NN.a5 ?_|refine NN.keep ?_)|((with_reducible refine NH.mk ?s ?_);case s=>(and_intros<;>first|with_reducible rfl|((with_reducible refine gOnes ?_);rfl)|((with_reducible refine gLen ?_);rfl)|omega))|((with_reducible refine NCall.isF 24 ?_);refine NCall.subw [0] _ _ (c) rfl (by decide) rfl ?_;rintro _ _ ⟨G',pw',w',hle2,hrow,rfl,rfl⟩;refine ⟨Nat.le_of_ble_eq_true rfl,_,rfl,?_⟩)|(with_reducible refine NLd.of (by with_reducible assumption) ?_))<;>(conv=>whnf))|((with_reducible refine gNO ?_);(first|(refine z36 rfl (by kernel_rfl) ?_;intro K hK;(conv=>whnf))|refine z38 rfl (by kernel_rfl) ?_|refine z39 rfl rfl (by kernel_rfl) (by intro h;cases h) ?_))|((with_reducible refine gNE ?_);(first|(refine z40 ?_ ?_;(intro K hK;(conv=>whnf)))|exact z42))|((with_reducible refine gX ?_);(first|refine z35 (by kernel_rfl) _ rfl ?_|(with_reducible first|refine z3 ?_|refine z4 ?_|refine z5 ?_|refine z6 ?_)|((with_reducible refine z29 ?_);intro A B hA hB;(conv=>whnf))))|(with_reducible first|refine z1 ?_|refine z2 ?_|refine z9 ?_)|((intro _;skip)<;>(conv=>whnf))))
   all_goals
    rename_i v9
    refine st_round (G',v9,ps++[⟨.mk zk (.mk zpk zpf zpv zpl) zf zv zl,pw',w'⟩]) ⟨hle.trans hle2,by rw [List.map_append,hmap,List.length_append,hk];exact hnx.symm,by rw [List.length_append,hk];exact hlt,fun x hx=>?_⟩ (by rw [List.length_append,hk];show l.length - (i+1)<l.length - i;omega) ?_ (MemFits.pre 5 ?_)
    ·rcases List.mem_append.1 hx with hx | hx
     ·exact Po.At.mono hle2 (hall x hx)
     ·rw [List.mem_singleton.1 hx];exact hrow
    ·simp only [List.length_append,hk]
     repeat (first|exact FitsSl.nil|refine FitsSl.any ?_|refine FitsSl.cons (Fit1.int (by first | rfl | omega)) ?_|refine FitsSl.cons (Fit1.bool rfl) ?_|refine FitsSl.cons (Fit1.same (by intro h;cases h) (by with_reducible rfl)) ?_)
    ·simp only [autoM,List.take,List.length_append,hk,hpn]
     rw [show i+[(⟨.mk zk (.mk zpk zpf zpv zpl) zf zv zl,pw',w'⟩:Po.L)].length=i+1 from rfl]
     rfl
  ·have hkl:i=l.length:=by omega
   subst hkl
   rw [List.take_length] at hmap
   clear ih cp
   have hX2:=hX2 (fun h=>absurd h.1 (by decide))
   rw [hX2]
   clear hX1 hX2 h5
   (repeat' (first|(with_reducible first|(refine hK _ _ ?_;clear hK K)|(refine hB ?_;clear hA hB A B)|(refine hK _ ?_;clear hK K))|((with_reducible first|refine z25 ?_|refine z26 ?_);intro K hK;(conv=>whnf))|(with_reducible refine z0 ?_)|((first|((with_reducible refine NIf.decN ?s ?_);case s=>omega)|((with_reducible refine NIf.no ?s ?_);case s=>rfl)|(with_reducible refine NN.a5 ?_)|((with_reducible refine NH.mk ?s ?_);case s=>(and_intros<;>first|with_reducible rfl|((with_reducible refine gOnes ?_);rfl)|((with_reducible refine gLen ?_);rfl))))<;>(conv=>whnf))|(with_reducible first|refine z3 ?_|refine z4 ?_|refine z6 ?_|refine z7 ?_|refine z8 ?_)|((with_reducible refine z29 ?_);intro A B hA hB;(conv=>whnf))|(with_reducible first|refine z1 ?_|refine z2 ?_|refine z10 ?_|refine z11 ?_|refine z19 ?_)|((with_reducible refine gR ?_);(refine z31 rfl ?_;intro K hK;(conv=>whnf)))))
   all_goals exact .inl ⟨G,pu1,w,ps,hle1.trans hle,hmap,hall,Pd.Row.mono hle hpu1,by simp only [Po.cs,Po.T.k,Po.T.p,Po.T.f,Po.T.v,Po.T.l,Pd.T.k,Pd.T.f,Pd.T.v,Pd.T.l,List.length_map];rfl,by rw [hk];exact MemFits.pick [0,4] (by decide) rfl⟩
theorem at27_in5 (F:Heap) (k f v:Int) (p:Pd.T) (l:List Po.T) (pu u:Value) (sw:Int) (hkk:k=5) (hs:Pd.size p≤1000000000000) (hl:l.length≤8) (h5:k=5→l.length=2) (hpf:(k=1∨k=5)→Pd.fits p=true) (hu:Po.Row F u l) (hpu:Pd.Row F pu p.l)
  (ih:∀ G,∀ y∈l,∀ pw w,Po.At G y pw w→NCall Tryz.prog 24 [.agg (Po.cs y pw w),.int .i64 sw] [hpB G] fun r m=>Po.Lays G (Po.spec sw y) r m) :
  NCall Tryz.prog 24 [.agg (Po.cs (.mk k p f v l) pu u),.int .i64 sw] [hpB F] fun r m=>Po.Out F 41 (Po.spec sw (.mk k p f v l)) r m:=by
 have hok:=hu.ok
 have hpok:=hpu.ok
 have hk15:k=1∨k=5:=by omega
 have cp:=cut26_c _ F p pu sw (Nat.le_refl _) hs (hpf hk15) hpu
 have hq0:=Pd.fits_k (Pd.cut_fits sw p (hpf hk15))
 have hX1:k=5→(Pd.cut sw p).k≤2→Po.spec sw (.mk k p f v l)=(l.map (Po.spec sw))[((Pd.cut sw p).k - 1).toNat]?.getD Po.zero:=fun h1 h2=>by rw [Po.spec_mk,if_pos ⟨h1,h2⟩]
 have hX2:¬ (k=5∧(Pd.cut sw p).k≤2)→Po.spec sw (.mk k p f v l) = .mk k (Pd.cut sw p) f v (l.map (Po.spec sw)):=fun h=>by rw [Po.spec_mk,if_neg h,if_pos hk15]
 generalize Po.spec sw (.mk k p f v l)=X at *
 generalize Pd.cut sw p=q at *
 rw [po_cs]
 clear hpf hk15
 obtain ⟨pk,pf,pv,pl⟩:=p
 obtain ⟨qk,qf,qv,ql⟩:=q
 simp only [Pd.Lays,pd_cs,Pd.T.k,Pd.T.f,Pd.T.v,Pd.T.l] at *
 subst hkk
 refine ncall_of Tryz.func24 rfl (by decide) ?_
 (repeat' (first|(with_reducible first|(refine hK _ _ ?_;clear hK K)|(refine hA ?_;clear hA hB A B)|(refine hK _ ?_;clear hK K))|((with_reducible first|refine z25 ?_|refine z26 ?_);intro K hK;(conv=>whnf))|(with_reducible refine z0 ?_)|((first|((with_reducible refine NIf.decY ?s ?_);case s=>with_reducible rfl)|((with_reducible refine NIf.decN ?s ?_);case s=>omega)|(with_reducible refine NN.a5 ?_)|((with_reducible refine NH.mk ?s ?_);case s=>(and_intros<;>first|with_reducible rfl|((with_reducible refine gOnes ?_);rfl)|((with_reducible refine gLen ?_);rfl)|omega))|((with_reducible refine NCall.isF 54 ?_);refine NCall.subw [0] _ _ (cp) rfl (by decide) rfl ?_;rintro _ _ ⟨F1,pu1,hle1,hpu1,rfl,rfl⟩;refine ⟨Nat.le_of_ble_eq_true rfl,_,rfl,?_⟩))<;>(conv=>whnf))|(with_reducible first|refine z3 ?_|refine z4 ?_|refine z5 ?_)|((with_reducible refine z29 ?_);intro A B hA hB;(conv=>whnf))|(with_reducible first|refine z1 ?_|refine z2 ?_)|((with_reducible refine gF ?_);(refine z33 rfl ?_;intro K hK;(conv=>whnf)))|((intro _;skip)<;>(conv=>whnf))))
 all_goals
  have hpok1:=hpu1.ok
  refine st_auto (α:=Heap × Value × List Po.L) (fun (G,w,ps)=>F1.le G∧ps.map (·.x)=(l.take ps.length).map (Po.spec sw)∧ps.length≤l.length∧∀ p∈ps,Po.At G p.x p.pu p.u) (fun (G,w,ps)=>[.keep,.keep,.keep,.keep,.keep,.keep,.keep,.drop,.keep,.keep,.keep,.keep,.keep,.keep,.keep,.keep,.keep,.keep,.keep,.keep,.keep,.keep,.keep,.keep,.keep,.keep,.keep,.keep,.keep,.keep,.keep,.set (.int .i64 ps.length),.drop,.drop,.drop,.drop,.drop,.drop,.drop,.drop,.drop,.drop,.drop,.drop,.keep,.keep,.keep,.keep,.keep,.keep,.keep,.keep,.keep,.keep,.keep,.keep,.keep,.keep,.keep,.keep,.keep,.keep])
   (fun (G,w,ps)=>[.set (hpB G),.keep,.keep,.cells [.int .i64 5,.int .i64 qk,.int .i64 qf,.int .i64 qv,.hs pu1 ql.length,.int .i64 f,.int .i64 v,.sl 4 w ps.length],.set ⟨addrOf w,Po.psC ps,.row w 41 8 ps.length⟩]) (fun (G,w,ps)=>l.length - ps.length) (F1,.slice .none 0 0,[]) ⟨F1.le_refl,rfl,Nat.zero_le _,fun p hp=>by simp at hp⟩ ?_ ((MemFits.nilRow _ 41 8).trans (MemFits.congr rfl)) ?_
  ·repeat (first|exact FitsSl.nil|refine FitsSl.any ?_|refine FitsSl.cons (Fit1.int (by first | rfl | omega)) ?_|refine FitsSl.cons (Fit1.bool rfl) ?_|refine FitsSl.cons (Fit1.same (by intro h;cases h) (by with_reducible rfl)) ?_)
  (intro ⟨G,w,ps⟩ ⟨hle,hmap,hlen,hall⟩;intro K hK;(conv=>whnf);refine hK _ _ ?_;clear hK K)
  dsimp only
  generalize hk:ps.length=i at *
  by_cases hlt:i<l.length
  ·have hx:l[i]?=some l[i]:=List.getElem?_eq_getElem hlt
   obtain ⟨pA,pcap,A,cap,hA,c0,c1,c2,c3,c4,c5,c6,c7⟩:=(Po.Row.mono (hle1.trans hle) hu).get hx
   have hAo:=hA.l.ok
   have hAp:=hA.p.ok
   have hmem:=List.mem_of_getElem? hx
   have c:=ih G _ hmem _ _ hA
   have hnx:(l.take (i+1)).map (Po.spec sw)=(l.take i).map (Po.spec sw)++[Po.spec sw l[i]]:=by rw [List.take_add_one,hx,List.map_append];rfl
   clear ih
   generalize Po.spec sw l[i]=z at *
   generalize l[i]=y at *
   have hpl:=Po.psC_len ps
   have hpn:=Po.psC_next ps
   generalize hpc:Po.psC ps=pc at *
   obtain ⟨yk,⟨ypk,ypf,ypv,ypl⟩,yf,yv,yl⟩:=y
   obtain ⟨zk,⟨zpk,zpf,zpv,zpl⟩,zf,zv,zl⟩:=z
   simp only [Po.Lays,Po.cs,Po.T.k,Po.T.p,Po.T.f,Po.T.v,Po.T.l,Pd.T.k,Pd.T.f,Pd.T.v,Pd.T.l] at c c0 c1 c2 c3 c4 c5 c6 c7 hAo hAp
   (repeat' (first|(with_reducible first|(refine hK _ _ ?_;clear hK K)|(refine hA ?_;clear hA hB A B)|(refine hK _ ?_;clear hK K))|((with_reducible refine z25 ?_);intro K hK;(conv=>whnf))|(with_reducible refine z0 ?_)|((first|((with_reducible refine NV.i64 ?s ?_);case s=>omega)|((with_reducible refine NIf.decY ?s ?_);case s=>omega)|(with_reducible first|refine NN.cast ?_|refine NN.a5 ?_|refine NN.keep ?_)|((with_reducible refine NH.mk ?s ?_);case s=>(and_intros<;>first|with_reducible rfl|((with_reducible refine gOnes ?_);rfl)|((with_reducible refine gLen ?_);rfl)|omega))|((with_reducible refine NCall.isF 24 ?_);refine NCall.subw [0] _ _ (c) rfl (by decide) rfl ?_;rintro _ _ ⟨G',pw',w',hle2,hrow,rfl,rfl⟩;refine ⟨Nat.le_of_ble_eq_true rfl,_,rfl,?_⟩)|(with_reducible refine NLd.of (by with_reducible assumption) ?_))<;>(conv=>whnf))|((with_reducible refine gNO ?_);(first|(refine z36 rfl (by kernel_rfl) ?_;intro K hK;(conv=>whnf))|refine z38 rfl (by kernel_rfl) ?_|refine z39 rfl rfl (by kernel_rfl) (by intro h;cases h) ?_))|((with_reducible refine gNE ?_);(first|(refine z40 ?_ ?_;(intro K hK;(conv=>whnf)))|exact z42))|((with_reducible refine gX ?_);(first|refine z35 (by kernel_rfl) _ rfl ?_|(with_reducible first|refine z3 ?_|refine z4 ?_|refine z5 ?_|refine z6 ?_)|((with_reducible refine z29 ?_);intro A B hA hB;(conv=>whnf))))|(with_reducible first|refine z1 ?_|refine z2 ?_|refine z9 ?_)|((intro _;skip)<;>(conv=>whnf))))
   all_goals
    rename_i v9
    refine st_round (G',v9,ps++[⟨.mk zk (.mk zpk zpf zpv zpl) zf zv zl,pw',w'⟩]) ⟨hle.trans hle2,by rw [List.map_append,hmap,List.length_append,hk];exact hnx.symm,by rw [List.length_append,hk];exact hlt,fun x hx=>?_⟩ (by rw [List.length_append,hk];show l.length - (i+1)<l.length - i;omega) ?_ (MemFits.pre 5 ?_)
    ·rcases List.mem_append.1 hx with hx | hx
     ·exact Po.At.mono hle2 (hall x hx)
     ·rw [List.mem_singleton.1 hx];exact hrow
    ·simp only [List.length_append,hk]
     repeat (first|exact FitsSl.nil|refine FitsSl.any ?_|refine FitsSl.cons (Fit1.int (by first | rfl | omega)) ?_|refine FitsSl.cons (Fit1.bool rfl) ?_|refine FitsSl.cons (Fit1.same (by intro h;cases h) (by with_reducible rfl)) ?_)
    ·simp only [autoM,List.take,List.length_append,hk,hpn]
     rw [show i+[(⟨.mk zk (.mk zpk zpf zpv zpl) zf zv zl,pw',w'⟩:Po.L)].length=i+1 from rfl]
     rfl
  ·have hkl:i=l.length:=by omega
   subst hkl
   rw [List.take_length] at hmap
   clear ih cp
   by_cases hq2:qk≤2
   ·have hX1:=hX1 rfl hq2
    rw [hX1]
    clear hX1 hX2
    have hl2:=h5 rfl
    match l,hl2,ps,hk,hmap with
    | [a,b],_,[x,y],_,hmap =>
     have hax:x.x=Po.spec sw a∧y.x=Po.spec sw b:=by simpa using hmap
     by_cases hq1:qk=1
     ·subst hq1
      have hq:[x,y][0]?=some x:=rfl
      (repeat' (first|(with_reducible first|(refine hK _ _ ?_;clear hK K)|(refine hA ?_;clear hA hB A B)|(refine hB ?_;clear hA hB A B)|(refine hK _ ?_;clear hK K))|((with_reducible first|refine z25 ?_|refine z26 ?_);intro K hK;(conv=>whnf))|(with_reducible refine z0 ?_)|((first|((with_reducible refine NV.i64 ?s ?_);case s=>omega)|((with_reducible refine NIf.decY ?s ?_);case s=>first|with_reducible rfl|assumption)|((with_reducible refine NIf.decN ?s ?_);case s=>omega)|(with_reducible first|refine NN.a5 ?_|refine NN.a6 ?_|refine NN.keep ?_)|((with_reducible refine NH.mk ?s ?_);case s=>(and_intros<;>first|with_reducible rfl|((with_reducible refine gOnes ?_);rfl)|((with_reducible refine gLen ?_);rfl)|omega)))<;>(conv=>whnf))|(with_reducible first|refine z3 ?_|refine z4 ?_|refine z7 ?_|refine z8 ?_)|((with_reducible refine z29 ?_);intro A B hA hB;(conv=>whnf))|(with_reducible first|refine z1 ?_|refine z2 ?_|refine z10 ?_|refine z11 ?_|refine z12 ?_|refine z19 ?_)|((with_reducible refine gR ?_);(refine z31 rfl ?_;intro K hK;(conv=>whnf)))))
      all_goals exact .inr ⟨G,x.pu,x.u,hle1.trans hle,by show Po.At G (Po.spec sw a) x.pu x.u;rw [← hax.1];exact hall x (by simp),by show _=(AV.agg (Po.cs (Po.spec sw a) x.pu x.u)).den;rw [← hax.1];rfl,MemFits.pre 1 rfl⟩
     ·obtain rfl:qk=2:=by omega
      have hq:[x,y][1]?=some y:=rfl
      (repeat' (first|(with_reducible first|(refine hK _ _ ?_;clear hK K)|(refine hA ?_;clear hA hB A B)|(refine hB ?_;clear hA hB A B)|(refine hK _ ?_;clear hK K))|((with_reducible first|refine z25 ?_|refine z26 ?_);intro K hK;(conv=>whnf))|(with_reducible refine z0 ?_)|((first|((with_reducible refine NV.i64 ?s ?_);case s=>omega)|((with_reducible refine NIf.decY ?s ?_);case s=>first|with_reducible rfl|assumption)|((with_reducible refine NIf.decN ?s ?_);case s=>omega)|(with_reducible first|refine NN.a5 ?_|refine NN.a6 ?_|refine NN.keep ?_)|((with_reducible refine NH.mk ?s ?_);case s=>(and_intros<;>first|with_reducible rfl|((with_reducible refine gOnes ?_);rfl)|((with_reducible refine gLen ?_);rfl)|omega)))<;>(conv=>whnf))|(with_reducible first|refine z3 ?_|refine z4 ?_|refine z7 ?_|refine z8 ?_)|((with_reducible refine z29 ?_);intro A B hA hB;(conv=>whnf))|(with_reducible first|refine z1 ?_|refine z2 ?_|refine z10 ?_|refine z11 ?_|refine z12 ?_|refine z19 ?_)|((with_reducible refine gR ?_);(refine z31 rfl ?_;intro K hK;(conv=>whnf)))))
      all_goals exact .inr ⟨G,y.pu,y.u,hle1.trans hle,by show Po.At G (Po.spec sw b) y.pu y.u;rw [← hax.2];exact hall y (by simp),by show _=(AV.agg (Po.cs (Po.spec sw b) y.pu y.u)).den;rw [← hax.2];rfl,MemFits.pre 1 rfl⟩
   ·have hX2:=hX2 (fun h=>hq2 h.2)
    rw [hX2]
    clear hX1 hX2
    (repeat' (first|(with_reducible first|(refine hK _ _ ?_;clear hK K)|(refine hB ?_;clear hA hB A B)|(refine hK _ ?_;clear hK K))|((with_reducible first|refine z25 ?_|refine z26 ?_);intro K hK;(conv=>whnf))|(with_reducible refine z0 ?_)|((first|((with_reducible refine NIf.decY ?s ?_);case s=>with_reducible rfl)|((with_reducible refine NIf.decN ?s ?_);case s=>first|assumption|omega)|(with_reducible first|refine NN.a5 ?_|refine NN.a6 ?_)|((with_reducible refine NH.mk ?s ?_);case s=>(and_intros<;>first|with_reducible rfl|((with_reducible refine gOnes ?_);rfl)|((with_reducible refine gLen ?_);rfl))))<;>(conv=>whnf))|(with_reducible first|refine z3 ?_|refine z4 ?_|refine z6 ?_|refine z7 ?_|refine z8 ?_)|((with_reducible refine z29 ?_);intro A B hA hB;(conv=>whnf))|(with_reducible first|refine z1 ?_|refine z2 ?_|refine z10 ?_|refine z11 ?_|refine z19 ?_)|((with_reducible refine gR ?_);(refine z31 rfl ?_;intro K hK;(conv=>whnf)))))
    all_goals exact .inl ⟨G,pu1,w,ps,hle1.trans hle,hmap,hall,Pd.Row.mono hle hpu1,by simp only [Po.cs,Po.T.k,Po.T.p,Po.T.f,Po.T.v,Po.T.l,Pd.T.k,Pd.T.f,Pd.T.v,Pd.T.l,List.length_map];rfl,by rw [hk];exact MemFits.pick [0,4] (by decide) rfl⟩
theorem at27_c:∀ (n:Nat) (F:Heap) (x:Po.T) (pu u:Value) (sw:Int),Po.tot x≤n→Po.tot x≤1000000000000→Po.fits x=true→Po.At F x pu u →
  NCall Tryz.prog 24 [.agg (Po.cs x pu u),.int .i64 sw] [hpB F] fun r m=>Po.Lays F (Po.spec sw x) r m
 | 0,F,x,pu,u,sw,hn,_,_,_=>absurd (Po.tot_pos x) (by omega)
 | n+1,F,⟨k,p,f,v,l⟩,pu,u,sw,hn,hs,hf,hx=>by
  refine Po.out_know (t:=41) ?_
  have hu:Po.Row F u l:=hx.l
  have hpu:Pd.Row F pu p.l:=hx.p
  have e2:=Po.tot_mk k p f v l
  obtain ⟨hsh,hfl⟩:=Po.fits_iff.1 hf
  have ih:∀ G,∀ y∈l,∀ pw w,Po.At G y pw w→NCall Tryz.prog 24 [.agg (Po.cs y pw w),.int .i64 sw] [hpB G] fun r m=>Po.Lays G (Po.spec sw y) r m:=fun G y hy pw w hw=>at27_c n G y pw w sw (by have:=Po.tot_lt (k:=k) (q:=p) (f:=f) (v:=v) hy;omega) (by have:=Po.tot_lt (k:=k) (q:=p) (f:=f) (v:=v) hy;omega) (hfl y hy) hw
  have hl:l.length≤8:=by omega
  have h5:k=5→l.length=2:=fun h=>by omega
  have hpf:(k=1∨k=5)→Pd.fits p=true:=fun h=>by
   have:Pd.right p=true:=by
    rcases hsh with h1 | h1 | h1 | h1
    ·exact h1.2.1
    ·omega
    ·omega
    ·exact h1.2.1
   exact Po.right_fits this
  by_cases hk1:k=1
  ·exact at27_in1 F k f v p l pu u sw hk1 (by omega) hl h5 hpf hu hpu ih
  by_cases hk5:k=5
  ·exact at27_in5 F k f v p l pu u sw hk5 (by omega) hl h5 hpf hu hpu ih
  ·exact at27_out F k f v p l pu u sw (by omega) (by omega) hl h5 hpf hu hpu ih
end Go.Proofs.YtaolcaggdddkpaaGreat
