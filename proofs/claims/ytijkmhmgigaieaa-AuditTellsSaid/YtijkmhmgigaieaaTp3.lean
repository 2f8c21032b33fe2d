import Derived.Test.YtijkmhmgigaieaaTp2p
namespace Go.Proofs.Ytijkmhmgigaieaa
open Go.Sx
set_option maxRecDepth 20000
set_option linter.unusedSimpArgs false
set_option linter.unusedVariables false
set_option maxHeartbeats 4000000
set_option linter.unusedVariables false
namespace Tp
theorem lk_count (q:Pl) (x:Lk):(lkP x).count q=(if x.a=q.1∧x.pa=q.2 then 1 else 0)+(if x.b=q.1∧x.pb=q.2 then 1 else 0):=by
  obtain ⟨a,b⟩:=q
  unfold lkP
  simp only [List.count_cons,List.count_nil,Prod.mk.injEq,beq_iff_eq,Nat.zero_add]
  omega
theorem hs_count (q:Pl) (x:Hs):[hsP x].count q=if x.at_=q.1∧x.port=q.2 then 1 else 0:=by
  obtain ⟨a,b⟩:=q
  unfold hsP
  simp only [List.count_cons,List.count_nil,Prod.mk.injEq,beq_iff_eq,Nat.zero_add]
end Tp
theorem port17_c (F:Heap) (t:Tp.T) (lv hv:Value) (ht:Tp.At F t lv hv) (hl:t.ls.length≤1000) (hh:t.hs.length≤1000) (sw p:Int):NCall Try.prog 48 [.agg (Tp.cs t lv hv),.int .i64 sw,.int .i64 p] [hpB F] fun r m=>r = .bool (Tp.port t (sw,p))∧m=[hpB F]:=by
  refine NCall.fits (K:=fun r m=>r = .bool (Tp.port t (sw,p))∧MemFits m [hpB F]) ?_ fun r m' ⟨h1,h3⟩=>⟨r,_,rfl,h3,h1,rfl⟩
  have hlo:=ht.l.ok
  have hho:=ht.h.ok
  have hpt:Tp.port t (sw,p)=(decide ((0≤sw∧sw<t.n)∧0≤p∧p<8)&&decide ((Tp.places t).count (sw,p)=1)):=rfl
  generalize Tp.port t (sw,p)=R at *
  obtain ⟨n,ls,hs⟩:=t
  unfold Tp.cs
  simp only at *
  have hpl:(Tp.places ⟨n,ls,hs⟩)=ls.flatMap Tp.lkP++hs.map Tp.hsP:=rfl
  rw [hpl,List.count_append] at hpt
  clear hpl
  refine ncall_of Try.func48 rfl (by decide) ?_
  (repeat' (first|(with_reducible first|(refine hK _ _ ?_;clear hK K)|(refine hK _ ?_;clear hK K))|((with_reducible refine z25 ?_);intro K hK;(conv=>whnf))|(with_reducible first|refine z0 ?_|refine z3 ?_|refine z4 ?_|refine z5 ?_|refine z1 ?_|refine z2 ?_)|((with_reducible refine gF ?_);(refine z33 rfl ?_;intro K hK;(conv=>whnf)))|((intro _;skip)<;>(conv=>whnf))))
  refine st_auto (α:=Nat × Nat) (fun (i,c)=>i≤ls.length∧c≤2*i∧c=((ls.take i).flatMap Tp.lkP).count (sw,p)) (fun (i,c)=>[.keep,.keep,.keep,.keep,.keep,.keep,.keep,.set (.int .i64 c),.set (.int .i64 i),.drop,.keep,.drop,.drop,.drop,.drop,.drop,.drop,.drop,.drop,.drop,.drop,.drop,.drop,.drop,.drop,.drop,.drop,.drop,.drop,.drop,.drop,.drop,.drop,.drop,.drop,.drop,.drop,.drop,.drop,.drop,.drop,.drop,.drop,.drop,.drop,.drop,.drop,.keep,.keep,.keep,.keep,.keep,.keep,.keep,.keep,.keep,.keep,.keep,.keep,.keep,.keep,.keep,.keep,.keep,.keep,.keep,.keep,.keep,.keep,.keep,.keep,.keep,.keep,.keep,.keep,.keep,.keep,.keep,.keep,.keep,.keep,.keep,.keep,.keep,.keep,.keep,.keep,.keep,.keep,.keep,.keep,.keep,.keep,.keep]) (fun _=>[]) (fun (i,c)=>ls.length - i) (0,0) ⟨Nat.zero_le _,Nat.zero_le _,rfl⟩ ?_ (MemFits.eq rfl) ?_
  · repeat (first|exact FitsSl.nil|refine FitsSl.any ?_|refine FitsSl.cons (Fit1.int (by first | rfl | omega)) ?_|refine FitsSl.cons (Fit1.bool rfl) ?_|refine FitsSl.cons (Fit1.same (by intro h;cases h) (by with_reducible rfl)) ?_)
  (intro ⟨i,c⟩ ⟨hi,hc2,hc⟩;intro K hK;(conv=>whnf);refine hK _ _ ?_;clear hK K)
  dsimp only
  by_cases hlt:i<ls.length
  · have hx:ls[i]?=some ls[i]:=List.getElem?_eq_getElem hlt
    obtain ⟨c0,c1,c2,c3,c4,c5⟩:=ht.l.get hx
    have hnx:((ls.take (i+1)).flatMap Tp.lkP).count (sw,p)=c+(Tp.lkP ls[i]).count (sw,p):=by rw [List.take_add_one,hx,List.flatMap_append,List.count_append,hc];simp
    rw [Tp.lk_count] at hnx
    generalize ls[i]=x at *
    obtain ⟨a,pa,b,pb,least,most⟩:=x
    dsimp only at c0 c1 c2 c3 c4 c5 hnx
    by_cases h1:a=sw∧pa=p<;>by_cases h2:b=sw∧pb=p
    all_goals
      first | rw [if_pos h1] at hnx | rw [if_neg h1] at hnx
      first | rw [if_pos h2] at hnx | rw [if_neg h2] at hnx
      (repeat' (first|(with_reducible first|(refine hK _ _ ?_;clear hK K)|(refine hA ?_;clear hA hB A B)|(refine hB ?_;clear hA hB A B))|((with_reducible first|refine z25 ?_|refine z26 ?_);intro K hK;(conv=>whnf))|(with_reducible refine z0 ?_)|((first|((with_reducible refine NV.i64 ?s ?_);case s=>omega)|((with_reducible refine NIf.decY ?s ?_);case s=>first|assumption|omega)|((with_reducible refine NIf.decN ?s ?_);case s=>first|assumption|omega)|((with_reducible refine NIf.no ?s ?_);case s=>rfl)|(with_reducible first|refine NIf.dec (fun _=>?_) (fun _=>?_)|refine NN.cast ?_|refine NN.a5 ?_|refine NN.keep ?_)|((with_reducible refine NH.mk ?s ?_);case s=>(and_intros<;>first|with_reducible rfl|((with_reducible refine gOnes ?_);rfl)|((with_reducible refine gLen ?_);rfl)|omega))|(with_reducible refine NLd.of (by with_reducible assumption) ?_))<;>(conv=>whnf))|(with_reducible first|refine z3 ?_|refine z4 ?_|refine z5 ?_|refine z6 ?_)|((with_reducible refine z29 ?_);intro A B hA hB;(conv=>whnf))|(with_reducible first|refine z1 ?_|refine z2 ?_|refine z9 ?_)|((intro _;skip)<;>(conv=>whnf))))
    all_goals first
      | (exfalso;omega)
      | refine st_round (i+1,c) ⟨hlt,by omega,hnx.symm⟩ (show ls.length - (i+1)<ls.length - i by omega) ?_ (MemFits.pre 2 rfl)
      | refine st_round (i+1,c+1) ⟨hlt,by omega,hnx.symm⟩ (show ls.length - (i+1)<ls.length - i by omega) ?_ (MemFits.pre 2 rfl)
      | refine st_round (i+1,c+(1+1)) ⟨hlt,by omega,hnx.symm⟩ (show ls.length - (i+1)<ls.length - i by omega) ?_ (MemFits.pre 2 rfl)
    all_goals repeat (first|exact FitsSl.nil|refine FitsSl.any ?_|refine FitsSl.cons (Fit1.int (by first | rfl | omega)) ?_|refine FitsSl.cons (Fit1.bool rfl) ?_|refine FitsSl.cons (Fit1.same (by intro h;cases h) (by with_reducible rfl)) ?_)
  have hkl:i=ls.length:=by omega
  subst hkl
  rw [List.take_length] at hc
  rw [← hc] at hpt
  clear hc
  (repeat' (first|(with_reducible first|(refine hK _ _ ?_;clear hK K)|(refine hB ?_;clear hA hB A B))|((with_reducible refine z25 ?_);intro K hK;(conv=>whnf))|(with_reducible refine z0 ?_)|((first|((with_reducible refine NIf.decN ?s ?_);case s=>omega)|(with_reducible refine NN.a5 ?_)|((with_reducible refine NH.mk ?s ?_);case s=>(and_intros<;>first|with_reducible rfl|omega)))<;>(conv=>whnf))|(with_reducible first|refine z3 ?_|refine z4 ?_|refine z5 ?_|refine z7 ?_)|((with_reducible refine z29 ?_);intro A B hA hB;(conv=>whnf))|(with_reducible first|refine z1 ?_|refine z2 ?_|refine z10 ?_|refine z11 ?_|refine z19 ?_)))
  refine st_auto (α:=Nat × Nat) (fun (i,e)=>i≤hs.length∧e≤c+i∧e=c+((hs.take i).map Tp.hsP).count (sw,p)) (fun (i,e)=>[.keep,.keep,.keep,.keep,.keep,.keep,.keep,.set (.int .i64 e),.keep,.keep,.set (.int .i64 i),.keep,.keep,.keep,.keep,.keep,.keep,.keep,.keep,.keep,.keep,.keep,.keep,.keep,.keep,.keep,.keep,.keep,.keep,.keep,.keep,.keep,.keep,.keep,.keep,.keep,.keep,.keep,.keep,.keep,.keep,.keep,.keep,.keep,.keep,.keep,.keep,.drop,.drop,.drop,.drop,.drop,.drop,.drop,.drop,.drop,.drop,.drop,.drop,.drop,.drop,.drop,.drop,.drop,.drop,.drop,.drop,.drop,.drop,.drop,.drop,.drop,.drop,.drop,.keep,.keep,.keep,.keep,.keep,.keep,.keep,.keep,.keep,.keep,.keep,.keep,.keep,.keep,.keep,.keep,.keep,.keep,.keep,.keep]) (fun _=>[]) (fun (i,e)=>hs.length - i) (0,c) ⟨Nat.zero_le _,Nat.le_refl _,rfl⟩ ?_ (MemFits.eq rfl) ?_
  · repeat (first|exact FitsSl.nil|refine FitsSl.any ?_|refine FitsSl.cons (Fit1.int (by first | rfl | omega)) ?_|refine FitsSl.cons (Fit1.bool rfl) ?_|refine FitsSl.cons (Fit1.same (by intro h;cases h) (by with_reducible rfl)) ?_)
  (intro ⟨i,e⟩ ⟨hi,hc3,he⟩;intro K hK;(conv=>whnf);refine hK _ _ ?_;clear hK K)
  dsimp only
  by_cases hlt:i<hs.length
  · have hx:hs[i]?=some hs[i]:=List.getElem?_eq_getElem hlt
    obtain ⟨c0,c1⟩:=ht.h.get hx
    have hnx:c+((hs.take (i+1)).map Tp.hsP).count (sw,p)=e+[Tp.hsP hs[i]].count (sw,p):=by rw [List.take_add_one,hx,List.map_append,List.count_append,he,Nat.add_assoc];rfl
    rw [Tp.hs_count] at hnx
    generalize hs[i]=x at *
    obtain ⟨a,b⟩:=x
    dsimp only at c0 c1 hnx
    by_cases h1:a=sw∧b=p
    all_goals
      first | rw [if_pos h1] at hnx | rw [if_neg h1] at hnx
      (repeat' (first|(with_reducible first|(refine hK _ _ ?_;clear hK K)|(refine hA ?_;clear hA hB A B)|(refine hB ?_;clear hA hB A B))|((with_reducible first|refine z25 ?_|refine z26 ?_);intro K hK;(conv=>whnf))|(with_reducible refine z0 ?_)|((first|((with_reducible refine NV.i64 ?s ?_);case s=>omega)|((with_reducible refine NIf.decY ?s ?_);case s=>first|assumption|omega)|((with_reducible refine NIf.decN ?s ?_);case s=>first|assumption|omega)|((with_reducible refine NIf.no ?s ?_);case s=>rfl)|(with_reducible first|refine NIf.dec (fun _=>?_) (fun _=>?_)|refine NN.cast ?_|refine NN.a5 ?_|refine NN.a6 ?_|refine NN.keep ?_)|((with_reducible refine NH.mk ?s ?_);case s=>(and_intros<;>first|with_reducible rfl|omega))|(with_reducible refine NLd.of (by with_reducible assumption) ?_))<;>(conv=>whnf))|(with_reducible first|refine z3 ?_|refine z4 ?_|refine z5 ?_|refine z6 ?_)|((with_reducible refine z29 ?_);intro A B hA hB;(conv=>whnf))|(with_reducible first|refine z1 ?_|refine z2 ?_|refine z9 ?_)))
    all_goals first
      | (exfalso;omega)
      | refine st_round (i+1,e) ⟨hlt,by omega,hnx.symm⟩ (show hs.length - (i+1)<hs.length - i by omega) ?_ (MemFits.pre 2 rfl)
      | refine st_round (i+1,e+1) ⟨hlt,by omega,hnx.symm⟩ (show hs.length - (i+1)<hs.length - i by omega) ?_ (MemFits.pre 2 rfl)
    all_goals repeat (first|exact FitsSl.nil|refine FitsSl.any ?_|refine FitsSl.cons (Fit1.int (by first | rfl | omega)) ?_|refine FitsSl.cons (Fit1.bool rfl) ?_|refine FitsSl.cons (Fit1.same (by intro h;cases h) (by with_reducible rfl)) ?_)
  have hkl:i=hs.length:=by omega
  subst hkl
  rw [List.take_length] at he
  rw [← he] at hpt
  (repeat' (first|(with_reducible first|(refine hK _ _ ?_;clear hK K)|(refine hB ?_;clear hA hB A B)|(refine hK _ ?_;clear hK K))|((with_reducible first|refine z25 ?_|refine z26 ?_);intro K hK;(conv=>whnf))|(with_reducible refine z0 ?_)|((first|((with_reducible refine NIf.decY ?s ?_);case s=>assumption)|((with_reducible refine NIf.decN ?s ?_);case s=>first|assumption|omega)|((with_reducible refine NIf.no ?s ?_);case s=>rfl)|(with_reducible first|refine NIf.dec (fun _=>?_) (fun _=>?_)|refine NN.a5 ?_)|((with_reducible refine NH.mk ?s ?_);case s=>(and_intros<;>first|with_reducible rfl|omega)))<;>(conv=>whnf))|(with_reducible first|refine z3 ?_|refine z4 ?_|refine z7 ?_|refine z8 ?_)|((with_reducible refine z29 ?_);intro A B hA hB;(conv=>whnf))|(with_reducible first|refine z1 ?_|refine z2 ?_|refine z10 ?_|refine z11 ?_|refine z19 ?_)|((with_reducible refine gR ?_);(refine z31 rfl ?_;intro K hK;(conv=>whnf)))))
  all_goals
    refine ⟨?_,MemFits.pre 1 rfl⟩
    congr 1
    rw [hpt,Bool.eq_iff_iff]
    simp only [Bool.and_eq_true,decide_eq_true_eq,Bool.false_eq_true,false_iff]
    omega
end Go.Proofs.Ytijkmhmgigaieaa
