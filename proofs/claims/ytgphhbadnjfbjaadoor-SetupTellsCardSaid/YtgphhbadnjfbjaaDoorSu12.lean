import Derived.Test.YtgphhbadnjfbjaaDoorSu8
namespace Go.Proofs.YtgphhbadnjfbjaaDoor
open Go.Sx
set_option maxRecDepth 20000
set_option linter.unusedSimpArgs false
set_option linter.unusedVariables false
set_option maxHeartbeats 4000000
set_option linter.unusedVariables false
namespace Su
def light (c:Cfg):Bool:=c.weights.all (fun l=>decide (l.length≤30))&&(decide (c.links.length≤30)&&(decide (c.hosts.length≤30)&&(decide (c.weights.length≤10)&&decide (c.starts.length≤30))))
theorem Wts.ok' {G:Heap} {v:Value} {l:List (List Nat)} (h:Wts G v l):SlOk v l.length:=by
  obtain ⟨ps,e,h1,_⟩:=h
  have:=h1.ok
  rwa [e,List.length_map]
end Su
theorem light40_c (F:Heap) (c:Su.Cfg) (lv hv wv sv:Value) (hc:Su.At F c lv hv wv sv) (hw:c.weights.length≤9223372036854775807) :
    NCall Tryd.prog 6 [.agg (Su.cs c lv hv wv sv)] [hpB F] fun r m=>r = .bool (Su.light c)∧m=[hpB F]:=by
  refine NCall.fits (K:=fun r m=>r = .bool (Su.light c)∧MemFits m [hpB F]) ?_ fun r m' h=>⟨r,_,rfl,h.2,h.1,rfl⟩
  have hok1:=hc.l.ok
  have hok2:=hc.h.ok
  have hok3:=hc.s.ok
  have hok4:=hc.w.ok'
  have hget:=fun i (h:i<c.weights.length)=>hc.w.get h
  have hall:∀ i,i≤c.weights.length→(∀ j (h:j<c.weights.length),j<i→c.weights[j].length≤30)→i=c.weights.length→c.weights.all (fun l=>decide (l.length≤30))=true:=fun i hi h e=>by
    subst e
    rw [List.all_eq_true]
    intro x hx
    obtain ⟨j,hj,rfl⟩:=List.getElem_of_mem hx
    exact decide_eq_true (h j hj hj)
  have hnot:∀ i (h:i<c.weights.length),¬ c.weights[i].length≤30→c.weights.all (fun l=>decide (l.length≤30))=false:=fun i h hn=>by
    refine Bool.eq_false_iff.2 fun e=>hn ?_
    rw [List.all_eq_true] at e
    exact of_decide_eq_true (e _ (List.getElem_mem h))
  unfold Su.light
  unfold Su.cs
  refine ncall_of Tryd.func6 rfl (by decide) ?_
  (repeat' (first|(with_reducible first|(refine hK _ _ ?_;clear hK K)|(refine hK _ ?_;clear hK K))|((with_reducible refine z25 ?_);intro K hK;(conv=>whnf))|(with_reducible first|refine z0 ?_|refine z3 ?_|refine z4 ?_|refine z5 ?_|refine z1 ?_|refine z2 ?_)|((with_reducible refine gF ?_);(refine z33 rfl ?_;intro K hK;(conv=>whnf)))|((intro _;skip)<;>(conv=>whnf))))
  refine st_auto (α:=Nat) (fun i=>i≤c.weights.length∧∀ j (h:j<c.weights.length),j<i→c.weights[j].length≤30) (fun i=>[.keep,.keep,.set (.bool false),.set (.int .i64 i),.drop,.drop,.drop,.drop,.drop,.drop,.drop,.drop,.drop,.drop,.drop,.drop,.drop,.drop,.keep,.keep,.keep,.keep,.keep,.keep,.keep,.keep,.keep,.keep,.keep,.keep,.keep,.keep,.keep,.keep,.keep,.keep,.keep,.keep,.keep,.keep,.keep,.keep]) (fun _=>[]) (fun i=>c.weights.length - i) 0 ⟨Nat.zero_le _,fun j h hj=>by omega⟩ ?_ ?_ ?_
  · repeat (first|exact FitsSl.nil|refine FitsSl.any ?_|refine FitsSl.cons (Fit1.int (by first | rfl | omega)) ?_|refine FitsSl.cons (Fit1.bool rfl) ?_|refine FitsSl.cons (Fit1.same (by intro h;cases h) (by with_reducible rfl)) ?_)
  · exact MemFits.eq rfl
  (intro i ⟨hi,hpre⟩;intro K hK;(conv=>whnf);refine hK _ _ ?_;clear hK K)
  by_cases hlt:i<c.weights.length
  · obtain ⟨A,cap,h1,h2,h3⟩:=hget i hlt
    have hstep:c.weights[i].length≤30→∀ j (h:j<c.weights.length),j<i+1→c.weights[j].length≤30:=fun hx j h hj=>by
      rcases Nat.lt_or_ge j i with h' | h'
      · exact hpre j h h'
      · obtain rfl:j=i:=by omega
        exact hx
    have hno:=hnot i hlt
    clear hpre hnot hall hget
    generalize c.weights[i]=x at *
    by_cases hx:x.length≤30
    · (repeat' (first|(with_reducible first|(refine hK _ _ ?_;clear hK K)|(refine hA ?_;clear hA hB A B)|(refine hB ?_;clear hA hB A B))|((with_reducible refine z25 ?_);intro K hK;(conv=>whnf))|(with_reducible refine z0 ?_)|((first|((with_reducible refine NV.i64 ?s ?_);case s=>omega)|((with_reducible refine NIf.decY ?s ?_);case s=>omega)|((with_reducible refine NIf.decN ?s ?_);case s=>omega)|(with_reducible first|refine NN.cast ?_|refine NN.a2 ?_|refine NN.a5 ?_)|((with_reducible refine NH.mk ?s ?_);case s=>(and_intros<;>first|with_reducible rfl|omega))|(with_reducible refine NLd.of (by with_reducible assumption) ?_))<;>(conv=>whnf))|(with_reducible first|refine z3 ?_|refine z4 ?_|refine z5 ?_|refine z6 ?_)|((with_reducible refine z29 ?_);intro A B hA hB;(conv=>whnf))|(with_reducible first|refine z1 ?_|refine z2 ?_|refine z9 ?_)))
      all_goals first | (exfalso;omega) | skip
      all_goals refine st_round (i+1) ⟨hlt,hstep hx⟩ (by omega) ?_ (MemFits.eq rfl)
      all_goals repeat (first|exact FitsSl.nil|refine FitsSl.any ?_|refine FitsSl.cons (Fit1.int (by first | rfl | omega)) ?_|refine FitsSl.cons (Fit1.bool rfl) ?_|refine FitsSl.cons (Fit1.same (by intro h;cases h) (by with_reducible rfl)) ?_)
    · rw [hno hx]
      (repeat' (first|(with_reducible first|(refine hK _ _ ?_;clear hK K)|(refine hA ?_;clear hA hB A B)|(refine hK _ ?_;clear hK K))|((with_reducible refine z25 ?_);intro K hK;(conv=>whnf))|(with_reducible refine z0 ?_)|((first|((with_reducible refine NIf.decY ?s ?_);case s=>omega)|(with_reducible first|refine NN.cast ?_|refine NN.a2 ?_|refine NN.a5 ?_)|((with_reducible refine NH.mk ?s ?_);case s=>(and_intros<;>first|with_reducible rfl|omega))|(with_reducible refine NLd.of (by with_reducible assumption) ?_))<;>(conv=>whnf))|(with_reducible first|refine z3 ?_|refine z4 ?_|refine z5 ?_|refine z6 ?_|refine z8 ?_)|((with_reducible refine z29 ?_);intro A B hA hB;(conv=>whnf))|(with_reducible first|refine z1 ?_|refine z2 ?_|refine z12 ?_|refine z13 ?_|refine z20 ?_)|((with_reducible refine gR ?_);(refine z31 rfl ?_;intro K hK;(conv=>whnf)))))
      all_goals first | (exfalso;omega) | exact ⟨rfl,MemFits.pre 1 rfl⟩
  · have he:i=c.weights.length:=by omega
    rw [hall i hi hpre he]
    clear hall hnot hget hpre hc
    generalize c.links.length=n1 at *
    generalize c.hosts.length=n2 at *
    generalize c.starts.length=n3 at *
    have hD:∀ a b:Nat,(a≤b∧decide (a≤b)=true)∨(¬ a≤b∧decide (a≤b)=false):=fun a b=>by
      by_cases h:a≤b
      · exact .inl ⟨h,decide_eq_true h⟩
      · exact .inr ⟨h,decide_eq_false h⟩
    rcases hD n1 30 with ⟨g1,q1⟩ | ⟨g1,q1⟩
    all_goals rw [q1]
    rotate_left
    · (repeat' (first|(with_reducible first|(refine hK _ _ ?_;clear hK K)|(refine hB ?_;clear hA hB A B)|(refine hK _ ?_;clear hK K))|((with_reducible first|refine z25 ?_|refine z26 ?_);intro K hK;(conv=>whnf))|(with_reducible refine z0 ?_)|((first|((with_reducible refine NIf.decN ?s ?_);case s=>omega)|((with_reducible refine NIf.no ?s ?_);case s=>rfl)|(with_reducible refine NN.a5 ?_)|((with_reducible refine NH.mk ?s ?_);case s=>(and_intros<;>first|with_reducible rfl|omega)))<;>(conv=>whnf))|(with_reducible first|refine z3 ?_|refine z4 ?_|refine z7 ?_|refine z8 ?_)|((with_reducible refine z29 ?_);intro A B hA hB;(conv=>whnf))|(with_reducible first|refine z1 ?_|refine z2 ?_|refine z10 ?_|refine z11 ?_|refine z19 ?_)|((with_reducible refine gR ?_);(refine z31 rfl ?_;intro K hK;(conv=>whnf)))))
      all_goals first | (exfalso;omega) | exact ⟨rfl,MemFits.pre 1 rfl⟩
    rcases hD n2 30 with ⟨g2,q2⟩ | ⟨g2,q2⟩
    all_goals rw [q2]
    rotate_left
    · (repeat' (first|(with_reducible first|(refine hK _ _ ?_;clear hK K)|(refine hB ?_;clear hA hB A B)|(refine hK _ ?_;clear hK K))|((with_reducible first|refine z25 ?_|refine z26 ?_);intro K hK;(conv=>whnf))|(with_reducible refine z0 ?_)|((first|((with_reducible refine NIf.decY ?s ?_);case s=>omega)|((with_reducible refine NIf.decN ?s ?_);case s=>omega)|((with_reducible refine NIf.no ?s ?_);case s=>rfl)|(with_reducible refine NN.a5 ?_)|((with_reducible refine NH.mk ?s ?_);case s=>(and_intros<;>first|with_reducible rfl|omega)))<;>(conv=>whnf))|(with_reducible first|refine z3 ?_|refine z4 ?_|refine z7 ?_|refine z8 ?_)|((with_reducible refine z29 ?_);intro A B hA hB;(conv=>whnf))|(with_reducible first|refine z1 ?_|refine z2 ?_|refine z10 ?_|refine z11 ?_|refine z19 ?_)|((with_reducible refine gR ?_);(refine z31 rfl ?_;intro K hK;(conv=>whnf)))))
      all_goals first | (exfalso;omega) | exact ⟨rfl,MemFits.pre 1 rfl⟩
    rcases hD c.weights.length 10 with ⟨g3,q3⟩ | ⟨g3,q3⟩
    all_goals rw [q3]
    rotate_left
    · (repeat' (first|(with_reducible first|(refine hK _ _ ?_;clear hK K)|(refine hB ?_;clear hA hB A B)|(refine hK _ ?_;clear hK K))|((with_reducible first|refine z25 ?_|refine z26 ?_);intro K hK;(conv=>whnf))|(with_reducible refine z0 ?_)|((first|((with_reducible refine NIf.decY ?s ?_);case s=>omega)|((with_reducible refine NIf.decN ?s ?_);case s=>omega)|(with_reducible refine NN.a5 ?_)|((with_reducible refine NH.mk ?s ?_);case s=>(and_intros<;>first|with_reducible rfl|omega)))<;>(conv=>whnf))|(with_reducible first|refine z3 ?_|refine z4 ?_|refine z7 ?_|refine z8 ?_)|((with_reducible refine z29 ?_);intro A B hA hB;(conv=>whnf))|(with_reducible first|refine z1 ?_|refine z2 ?_|refine z10 ?_|refine z11 ?_|refine z19 ?_)|((with_reducible refine gR ?_);(refine z31 rfl ?_;intro K hK;(conv=>whnf)))))
      all_goals first | (exfalso;omega) | exact ⟨rfl,MemFits.pre 1 rfl⟩
    rcases hD n3 30 with ⟨g4,q4⟩ | ⟨g4,q4⟩
    all_goals rw [q4]
    · (repeat' (first|(with_reducible first|(refine hK _ _ ?_;clear hK K)|(refine hB ?_;clear hA hB A B)|(refine hK _ ?_;clear hK K))|((with_reducible first|refine z25 ?_|refine z26 ?_);intro K hK;(conv=>whnf))|(with_reducible refine z0 ?_)|((first|((with_reducible refine NIf.decY ?s ?_);case s=>omega)|((with_reducible refine NIf.decN ?s ?_);case s=>omega)|(with_reducible refine NN.a5 ?_)|((with_reducible refine NH.mk ?s ?_);case s=>(and_intros<;>first|with_reducible rfl|omega)))<;>(conv=>whnf))|(with_reducible first|refine z3 ?_|refine z4 ?_|refine z7 ?_|refine z8 ?_)|((with_reducible refine z29 ?_);intro A B hA hB;(conv=>whnf))|(with_reducible first|refine z1 ?_|refine z2 ?_|refine z10 ?_|refine z11 ?_|refine z19 ?_)|((with_reducible refine gR ?_);(refine z31 rfl ?_;intro K hK;(conv=>whnf)))))
      all_goals first | (exfalso;omega) | exact ⟨congrArg AV.bool (decide_eq_true (by omega)),MemFits.pre 1 rfl⟩
    · (repeat' (first|(with_reducible first|(refine hK _ _ ?_;clear hK K)|(refine hB ?_;clear hA hB A B)|(refine hK _ ?_;clear hK K))|((with_reducible first|refine z25 ?_|refine z26 ?_);intro K hK;(conv=>whnf))|(with_reducible refine z0 ?_)|((first|((with_reducible refine NIf.decY ?s ?_);case s=>omega)|((with_reducible refine NIf.decN ?s ?_);case s=>omega)|(with_reducible refine NN.a5 ?_)|((with_reducible refine NH.mk ?s ?_);case s=>(and_intros<;>first|with_reducible rfl|omega)))<;>(conv=>whnf))|(with_reducible first|refine z3 ?_|refine z4 ?_|refine z7 ?_|refine z8 ?_)|((with_reducible refine z29 ?_);intro A B hA hB;(conv=>whnf))|(with_reducible first|refine z1 ?_|refine z2 ?_|refine z10 ?_|refine z11 ?_|refine z19 ?_)|((with_reducible refine gR ?_);(refine z31 rfl ?_;intro K hK;(conv=>whnf)))))
      all_goals first | (exfalso;omega) | exact ⟨congrArg AV.bool (decide_eq_false (by omega)),MemFits.pre 1 rfl⟩
end Go.Proofs.YtgphhbadnjfbjaaDoor
