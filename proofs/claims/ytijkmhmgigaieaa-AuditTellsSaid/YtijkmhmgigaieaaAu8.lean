import Derived.Test.YtijkmhmgigaieaaAu5
namespace Go.Proofs.Ytijkmhmgigaieaa
open Go.Sx
set_option maxRecDepth 20000
set_option linter.unusedSimpArgs false
set_option linter.unusedVariables false
set_option maxHeartbeats 4000000
set_option linter.unusedVariables false
set_option linter.unnecessarySimpa false
namespace Au
def sm23 (t:Tp.T) (r:List (List Int)):Bool:=r.all (fun row=>decide (row.length≤12))&&(decide (t.ls.length≤30)&&decide (t.hs.length≤12)&&decide (r.length≤12))
def small (t:Tp.T) (rs:List (List (List Int))) (l:List Tc.E):Bool:=decide (l.length≤100)&&decide (rs.length≤8)&&(rs.all (sm23 t)&&sm23 t [])
def short (rs:List (List (List Int))):Prop:=rs.length≤9223372036854775807∧∀ r∈rs,r.length≤9223372036854775807
theorem sm23_all {t:Tp.T} {r:List (List Int)} (h:∀ row∈r,row.length≤12):sm23 t r=(decide (t.ls.length≤30)&&decide (t.hs.length≤12)&&decide (r.length≤12)):=by
  unfold sm23
  rw [show r.all (fun row=>decide (row.length≤12))=true from List.all_eq_true.2 fun row hr=>decide_eq_true (h row hr),Bool.true_and]
theorem sm23_no {t:Tp.T} {r:List (List Int)} {row:List Int} (h:row∈r) (h2:¬row.length≤12):sm23 t r=false:=by
  unfold sm23
  rw [show r.all (fun row=>decide (row.length≤12))=false from by
    rw [List.all_eq_false]
    exact ⟨row,h,by simpa using h2⟩,Bool.false_and]
theorem small_of {t:Tp.T} {rs:List (List (List Int))} {l:List Tc.E} (h:small t rs l=true):l.length≤100∧t.ls.length≤30∧t.hs.length≤12∧fewR rs:=by
  unfold small sm23 at h
  simp only [Bool.and_eq_true,decide_eq_true_eq,List.all_eq_true] at h
  exact ⟨h.1.1,h.2.2.2.1.1,h.2.2.2.1.2,by omega,fun r hr=>⟨by have:=(h.2.1 r hr).2.2;omega,fun row hrow=>by have:=(h.2.1 r hr).1 row hrow;omega⟩⟩
end Au
theorem small23_c (F:Heap) (t:Tp.T) (lv hv v:Value) (r:List (List Int)) (ht:Tp.At F t lv hv) (hr:Rt.Row F v r) (hn:r.length≤9223372036854775807) :
    NCall Try.prog 7 [.agg (Tp.cs t lv hv),.hs v r.length] [hpB F] fun u m=>u = .bool (Au.sm23 t r)∧m=[hpB F]:=by
  refine NCall.fits (K:=fun u m=>u = .bool (Au.sm23 t r)∧MemFits m [hpB F]) ?_ fun r m' h=>⟨r,_,rfl,h.2,h.1,rfl⟩
  have hlo:=ht.l.ok
  have hho:=ht.h.ok
  have hok:=hr.ok
  unfold Tp.cs
  refine ncall_of Try.func7 rfl (by decide) ?_
  (repeat' (first|(with_reducible first|(refine hK _ _ ?_;clear hK K)|(refine hK _ ?_;clear hK K))|((with_reducible refine z25 ?_);intro K hK;(conv=>whnf))|(with_reducible first|refine z0 ?_|refine z3 ?_|refine z4 ?_|refine z5 ?_|refine z1 ?_|refine z2 ?_)|((with_reducible refine gF ?_);(refine z33 rfl ?_;intro K hK;(conv=>whnf)))|((intro _;skip)<;>(conv=>whnf))))
  refine st_auto (α:=Nat) (fun i=>i≤r.length∧∀ row∈r.take i,row.length≤12) (fun i=>[.keep,.keep,.keep,.keep,.set (.bool false),.set (.int .i64 i),.drop,.drop,.drop,.drop,.drop,.drop,.drop,.drop,.drop,.drop,.drop,.drop,.keep,.keep,.keep,.keep,.keep,.keep,.keep,.keep,.keep,.keep,.keep,.keep,.keep,.keep,.keep]) (fun _=>[.keep,.keep]) (fun i=>r.length - i) 0 ⟨Nat.zero_le _,fun row h=>by simp at h⟩ ?_ (MemFits.eq rfl) ?_
  · repeat (first|exact FitsSl.nil|refine FitsSl.any ?_|refine FitsSl.cons (Fit1.int (by first | rfl | omega)) ?_|refine FitsSl.cons (Fit1.bool rfl) ?_|refine FitsSl.cons (Fit1.same (by intro h;cases h) (by with_reducible rfl)) ?_)
  (intro i ⟨hi,hall⟩;intro K hK;(conv=>whnf);refine hK _ _ ?_;clear hK K)
  by_cases hlt:i<r.length
  · have hx:r[i]?=some r[i]:=List.getElem?_eq_getElem hlt
    obtain ⟨A,cap,hrw,c0⟩:=hr.get hx
    have hno:=fun h=>Au.sm23_no (t:=t) (List.mem_of_getElem? hx) h
    have hnx:r[i].length≤12→∀ row∈r.take (i+1),row.length≤12:=fun h row hm=>by
      rw [List.take_add_one,hx,Option.toList_some,List.mem_append,List.mem_singleton] at hm
      rcases hm with hm | hm
      · exact hall row hm
      · rw [hm];exact h
    generalize r[i]=x at *
    have hrk:=hrw.ok
    by_cases h12:x.length≤12
    · (repeat' (first|(with_reducible first|(refine hK _ _ ?_;clear hK K)|(refine hA ?_;clear hA hB A B)|(refine hB ?_;clear hA hB A B))|((with_reducible refine z25 ?_);intro K hK;(conv=>whnf))|(with_reducible refine z0 ?_)|((first|((with_reducible refine NV.i64 ?s ?_);case s=>omega)|((with_reducible refine NIf.decY ?s ?_);case s=>omega)|((with_reducible refine NIf.decN ?s ?_);case s=>omega)|(with_reducible first|refine NN.cast ?_|refine NN.a2 ?_)|((with_reducible refine NH.mk ?s ?_);case s=>(and_intros<;>omega))|(with_reducible refine NLd.of (by with_reducible assumption) ?_))<;>(conv=>whnf))|(with_reducible first|refine z3 ?_|refine z4 ?_|refine z5 ?_|refine z6 ?_)|((with_reducible refine z29 ?_);intro A B hA hB;(conv=>whnf))|(with_reducible first|refine z1 ?_|refine z2 ?_|refine z9 ?_)))
      all_goals first | (exfalso;omega) | refine st_round (i+1) ⟨hlt,hnx h12⟩ (by omega) ?_ (MemFits.eq rfl)
      all_goals repeat (first|exact FitsSl.nil|refine FitsSl.any ?_|refine FitsSl.cons (Fit1.int (by first | rfl | omega)) ?_|refine FitsSl.cons (Fit1.bool rfl) ?_|refine FitsSl.cons (Fit1.same (by intro h;cases h) (by with_reducible rfl)) ?_)
    · rw [hno h12]
      (repeat' (first|(with_reducible first|(refine hK _ _ ?_;clear hK K)|(refine hA ?_;clear hA hB A B)|(refine hK _ ?_;clear hK K))|((with_reducible refine z25 ?_);intro K hK;(conv=>whnf))|(with_reducible refine z0 ?_)|((first|((with_reducible refine NIf.decY ?s ?_);case s=>omega)|(with_reducible first|refine NN.cast ?_|refine NN.a2 ?_)|((with_reducible refine NH.mk ?s ?_);case s=>(and_intros<;>omega))|(with_reducible refine NLd.of (by with_reducible assumption) ?_))<;>(conv=>whnf))|(with_reducible first|refine z3 ?_|refine z4 ?_|refine z5 ?_|refine z6 ?_|refine z8 ?_)|((with_reducible refine z29 ?_);intro A B hA hB;(conv=>whnf))|(with_reducible first|refine z1 ?_|refine z2 ?_|refine z12 ?_|refine z13 ?_|refine z20 ?_)|((with_reducible refine gR ?_);(refine z31 rfl ?_;intro K hK;(conv=>whnf)))))
      all_goals first | (exfalso;omega) | exact ⟨rfl,MemFits.pre 1 rfl⟩
  · have hii:i=r.length:=by omega
    subst hii
    rw [List.take_length] at hall
    rw [Au.sm23_all hall]
    by_cases h1:t.ls.length≤30
    · by_cases h2:t.hs.length≤12
      · rw [decide_eq_true h1,decide_eq_true h2,Bool.true_and,Bool.true_and]
        (repeat' (first|(with_reducible first|(refine hK _ _ ?_;clear hK K)|(refine hB ?_;clear hA hB A B)|(refine hK _ ?_;clear hK K))|((with_reducible first|refine z25 ?_|refine z26 ?_);intro K hK;(conv=>whnf))|(with_reducible refine z0 ?_)|((first|((with_reducible refine NIf.decY ?s ?_);case s=>omega)|((with_reducible refine NIf.decN ?s ?_);case s=>omega)|(with_reducible refine NN.a5 ?_)|((with_reducible refine NH.mk ?s ?_);case s=>(and_intros<;>first|with_reducible rfl|omega)))<;>(conv=>whnf))|(with_reducible first|refine z3 ?_|refine z4 ?_|refine z7 ?_|refine z8 ?_)|((with_reducible refine z29 ?_);intro A B hA hB;(conv=>whnf))|(with_reducible first|refine z1 ?_|refine z2 ?_|refine z10 ?_|refine z11 ?_|refine z19 ?_)|((with_reducible refine gR ?_);(refine z31 rfl ?_;intro K hK;(conv=>whnf)))))
        all_goals first | (exfalso;omega) | exact ⟨congrArg AV.bool (decide_eq_decide.2 (by omega)),MemFits.pre 1 rfl⟩
      · rw [decide_eq_true h1,decide_eq_false h2,Bool.true_and,Bool.false_and]
        (repeat' (first|(with_reducible first|(refine hK _ _ ?_;clear hK K)|(refine hB ?_;clear hA hB A B)|(refine hK _ ?_;clear hK K))|((with_reducible first|refine z25 ?_|refine z26 ?_);intro K hK;(conv=>whnf))|(with_reducible refine z0 ?_)|((first|((with_reducible refine NIf.decY ?s ?_);case s=>omega)|((with_reducible refine NIf.decN ?s ?_);case s=>omega)|(with_reducible refine NN.a5 ?_)|((with_reducible refine NH.mk ?s ?_);case s=>(and_intros<;>first|with_reducible rfl|omega)))<;>(conv=>whnf))|(with_reducible first|refine z3 ?_|refine z4 ?_|refine z7 ?_|refine z8 ?_)|((with_reducible refine z29 ?_);intro A B hA hB;(conv=>whnf))|(with_reducible first|refine z1 ?_|refine z2 ?_|refine z10 ?_|refine z11 ?_|refine z19 ?_)|((with_reducible refine gR ?_);(refine z31 rfl ?_;intro K hK;(conv=>whnf)))))
        all_goals first | (exfalso;omega) | exact ⟨rfl,MemFits.pre 1 rfl⟩
    · rw [decide_eq_false h1,Bool.false_and,Bool.false_and]
      (repeat' (first|(with_reducible first|(refine hK _ _ ?_;clear hK K)|(refine hB ?_;clear hA hB A B)|(refine hK _ ?_;clear hK K))|((with_reducible first|refine z25 ?_|refine z26 ?_);intro K hK;(conv=>whnf))|(with_reducible refine z0 ?_)|((first|((with_reducible refine NIf.decN ?s ?_);case s=>omega)|((with_reducible refine NIf.no ?s ?_);case s=>rfl)|(with_reducible refine NN.a5 ?_)|((with_reducible refine NH.mk ?s ?_);case s=>(and_intros<;>first|with_reducible rfl|omega)))<;>(conv=>whnf))|(with_reducible first|refine z3 ?_|refine z4 ?_|refine z7 ?_|refine z8 ?_)|((with_reducible refine z29 ?_);intro A B hA hB;(conv=>whnf))|(with_reducible first|refine z1 ?_|refine z2 ?_|refine z10 ?_|refine z11 ?_|refine z19 ?_)|((with_reducible refine gR ?_);(refine z31 rfl ?_;intro K hK;(conv=>whnf)))))
      all_goals first | (exfalso;omega) | exact ⟨rfl,MemFits.pre 1 rfl⟩
namespace Au
theorem small_big {t:Tp.T} {rs:List (List (List Int))} {l:List Tc.E} (h:¬(l.length≤100∧rs.length≤8)):small t rs l=false:=by
  unfold small
  rw [show (decide (l.length≤100)&&decide (rs.length≤8))=false from by
    cases hb:(decide (l.length≤100)&&decide (rs.length≤8)) with
    | false=>rfl
    | true=>exact (h (by simpa using hb)).elim,Bool.false_and]
theorem small_few {t:Tp.T} {rs:List (List (List Int))} {l:List Tc.E} (h:l.length≤100∧rs.length≤8):small t rs l=(rs.all (sm23 t)&&sm23 t []):=by
  unfold small
  rw [decide_eq_true h.1,decide_eq_true h.2,Bool.true_and,Bool.true_and]
theorem all_no {α:Type} {p:α→Bool} {l:List α} {x:α} (h:x∈l) (hp:p x=false):l.all p=false:=by
  rw [List.all_eq_false]
  exact ⟨x,h,by simp [hp]⟩
end Au
theorem small42_c (F:Heap) (t:Tp.T) (lv hv v ev:Value) (rs:List (List (List Int))) (l:List Tc.E) (ht:Tp.At F t lv hv) (hr:Au.RRow F v rs) (hs:Au.short rs) (he:Tc.ERow F ev l) (hel:l.length≤9223372036854775807) :
    NCall Try.prog 15 [.agg (Tp.cs t lv hv),.hs v rs.length,.hs ev l.length] [hpB F] fun u m=>u = .bool (Au.small t rs l)∧m=[hpB F]:=by
  refine NCall.fits (K:=fun u m=>u = .bool (Au.small t rs l)∧MemFits m [hpB F]) ?_ fun r m' h=>⟨r,_,rfl,h.2,h.1,rfl⟩
  have hlo:=ht.l.ok
  have hho:=ht.h.ok
  have hok:=hr.ok
  have hek:=he.ok
  have c0:NCall Try.prog 7 [.agg (Tp.cs t lv hv),.raw (.slice none 0 0)] [hpB F] fun u m=>u = .bool (Au.sm23 t [])∧m=[hpB F]:=NCall.fits (NCall.pre (small23_c F t lv hv (.slice none 0 0) [] ht RowF.nil (by decide)) rfl (MemFits.eq rfl)) fun r m' h=>⟨r,_,rfl,h.2 ▸ MemFits.eq rfl,h.1,rfl⟩
  have cs:=fun r w (h:Rt.Row F w r) (h2:r.length≤9223372036854775807)=>small23_c F t lv hv w r ht h h2
  unfold Tp.cs at c0 cs ⊢
  have hn1:=hs.1
  refine ncall_of Try.func15 rfl (by decide) ?_
  by_cases hb:l.length≤100∧rs.length≤8
  · rw [Au.small_few hb]
    obtain ⟨hb1,hb2⟩:=hb
    (repeat' (first|(with_reducible first|(refine hK _ _ ?_;clear hK K)|(refine hB ?_;clear hA hB A B)|(refine hK _ ?_;clear hK K))|((with_reducible first|refine z25 ?_|refine z26 ?_);intro K hK;(conv=>whnf))|(with_reducible refine z0 ?_)|((first|((with_reducible refine NIf.decN ?s ?_);case s=>omega)|((with_reducible refine NH.mk ?s ?_);case s=>(and_intros<;>omega)))<;>(conv=>whnf))|(with_reducible first|refine z3 ?_|refine z4 ?_|refine z5 ?_|refine z6 ?_)|((with_reducible refine z29 ?_);intro A B hA hB;(conv=>whnf))|(with_reducible first|refine z1 ?_|refine z2 ?_)|((with_reducible refine gF ?_);(refine z33 rfl ?_;intro K hK;(conv=>whnf)))|((intro _;skip)<;>(conv=>whnf))))
    all_goals try (exfalso;omega)
    refine st_auto (α:=Nat) (fun i=>i≤rs.length∧∀ r∈rs.take i,Au.sm23 t r=true) (fun i=>[.keep,.keep,.keep,.keep,.keep,.keep,.set (.bool false),.set (.int .i64 i),.keep,.keep,.keep,.keep,.keep,.keep,.keep,.keep,.drop,.drop,.drop,.drop,.drop,.drop,.drop,.drop,.drop,.drop,.drop,.drop,.drop,.keep,.keep]) (fun _=>[.keep,.keep]) (fun i=>rs.length - i) 0 ⟨Nat.zero_le _,fun row h=>by simp at h⟩ ?_ (MemFits.eq rfl) ?_
    · repeat (first|exact FitsSl.nil|refine FitsSl.any ?_|refine FitsSl.cons (Fit1.int (by first | rfl | omega)) ?_|refine FitsSl.cons (Fit1.bool rfl) ?_|refine FitsSl.cons (Fit1.same (by intro h;cases h) (by with_reducible rfl)) ?_)
    (intro i ⟨hi,hall⟩;intro K hK;(conv=>whnf);refine hK _ _ ?_;clear hK K)
    by_cases hlt:i<rs.length
    · have hx:rs[i]?=some rs[i]:=List.getElem?_eq_getElem hlt
      obtain ⟨A,cap,hrw,d0⟩:=hr.get hx
      have hno:=fun h=>Au.all_no (p:=Au.sm23 t) (List.mem_of_getElem? hx) h
      have hxs:=hs.2 _ (List.mem_of_getElem? hx)
      have hnx:Au.sm23 t rs[i]=true→∀ r∈rs.take (i+1),Au.sm23 t r=true:=fun h row hm=>by
        rw [List.take_add_one,hx,Option.toList_some,List.mem_append,List.mem_singleton] at hm
        rcases hm with hm | hm
        · exact hall row hm
        · rw [hm];exact h
      generalize rs[i]=x at *
      have cx:=cs x _ hrw hxs
      cases hsx:Au.sm23 t x with
      | true =>
        rw [hsx] at cx
        (repeat' (first|(with_reducible first|(refine hK _ _ ?_;clear hK K)|(refine hA ?_;clear hA hB A B)|(refine hB ?_;clear hA hB A B)|(refine hK _ ?_;clear hK K))|((with_reducible refine z25 ?_);intro K hK;(conv=>whnf))|(with_reducible refine z0 ?_)|((first|((with_reducible refine NV.i64 ?s ?_);case s=>omega)|((with_reducible refine NIf.no ?s ?_);case s=>(simp ;done))|((with_reducible refine NIf.decY ?s ?_);case s=>omega)|(with_reducible first|refine NN.cast ?_|refine NN.a2 ?_)|((with_reducible refine NH.mk ?s ?_);case s=>(and_intros<;>first|((with_reducible refine gKept ?_);exact rfl)|omega|rfl))|((with_reducible refine NCall.isF 7 ?_);refine NCall.subE [0] (cx) rfl (by decide) rfl rfl ?_)|(with_reducible refine NLd.of (by with_reducible assumption) ?_))<;>(conv=>whnf))|(with_reducible refine st_ordSout ?_)|((with_reducible refine gNOK ?_);(first|(refine st_ordK1 rfl (by kernel_rfl) rfl ?_;intro K hK;(conv=>whnf))|refine st_ordK0 rfl (by kernel_rfl) ?_|refine st_ordKA rfl rfl (by kernel_rfl) (by intro h;cases h) ?_))|((with_reducible refine gNEK ?_);(first|(refine st_eachK ?_ ?_;(intro K hK;(conv=>whnf)))|exact st_eachK0))|((with_reducible refine gX ?_);(first|refine st_orderS [] rfl rfl (by kernel_rfl) _ rfl ?_|(with_reducible first|refine z3 ?_|refine z4 ?_|refine z5 ?_|refine z6 ?_)|((with_reducible refine z29 ?_);intro A B hA hB;(conv=>whnf))))|(with_reducible first|refine z1 ?_|refine z2 ?_|refine z9 ?_)))
        all_goals refine st_round (i+1) ⟨hlt,hnx hsx⟩ (by omega) ?_ (MemFits.eq rfl)
        all_goals repeat (first|exact FitsSl.nil|refine FitsSl.any ?_|refine FitsSl.cons (Fit1.int (by first | rfl | omega)) ?_|refine FitsSl.cons (Fit1.bool rfl) ?_|refine FitsSl.cons (Fit1.same (by intro h;cases h) (by with_reducible rfl)) ?_)
      | false =>
        rw [hsx] at cx
        rw [hno hsx,Bool.false_and]
        (repeat' (first|(with_reducible first|(refine hK _ _ ?_;clear hK K)|(refine hA ?_;clear hA hB A B)|(refine hK _ ?_;clear hK K))|((with_reducible refine z25 ?_);intro K hK;(conv=>whnf))|(with_reducible refine z0 ?_)|((first|((with_reducible refine NIf.yes ?s ?_);case s=>(simp ;done))|((with_reducible refine NIf.decY ?s ?_);case s=>omega)|(with_reducible first|refine NN.cast ?_|refine NN.a2 ?_)|((with_reducible refine NH.mk ?s ?_);case s=>(and_intros<;>first|((with_reducible refine gKept ?_);exact rfl)|omega|rfl))|((with_reducible refine NCall.isF 7 ?_);refine NCall.subE [0] (cx) rfl (by decide) rfl rfl ?_)|(with_reducible refine NLd.of (by with_reducible assumption) ?_))<;>(conv=>whnf))|(with_reducible refine st_ordSout ?_)|((with_reducible refine gNOK ?_);(first|(refine st_ordK1 rfl (by kernel_rfl) rfl ?_;intro K hK;(conv=>whnf))|refine st_ordK0 rfl (by kernel_rfl) ?_|refine st_ordKA rfl rfl (by kernel_rfl) (by intro h;cases h) ?_))|((with_reducible refine gNEK ?_);(first|(refine st_eachK ?_ ?_;(intro K hK;(conv=>whnf)))|exact st_eachK0))|((with_reducible refine gX ?_);(first|refine st_orderS [] rfl rfl (by kernel_rfl) _ rfl ?_|(with_reducible first|refine z3 ?_|refine z4 ?_|refine z5 ?_|refine z6 ?_|refine z8 ?_)|((with_reducible refine z29 ?_);intro A B hA hB;(conv=>whnf))))|(with_reducible first|refine z1 ?_|refine z2 ?_|refine z12 ?_|refine z13 ?_|refine z20 ?_)|((with_reducible refine gR ?_);(refine z31 rfl ?_;intro K hK;(conv=>whnf)))))
        all_goals exact ⟨rfl,MemFits.pre 1 rfl⟩
    · have hii:i=rs.length:=by omega
      subst hii
      rw [List.take_length] at hall
      rw [List.all_eq_true.2 hall,Bool.true_and]
      (repeat' (first|(with_reducible first|(refine hK _ _ ?_;clear hK K)|(refine hB ?_;clear hA hB A B)|(refine hK _ ?_;clear hK K))|((with_reducible refine z25 ?_);intro K hK;(conv=>whnf))|(with_reducible refine z0 ?_)|((first|((with_reducible refine NIf.decN ?s ?_);case s=>omega)|((with_reducible refine NH.mk ?s ?_);case s=>(and_intros<;>first|with_reducible rfl|omega))|((with_reducible refine NCall.isF 7 ?_);refine NCall.subE [0] (c0) rfl (by decide) rfl rfl ?_))<;>(conv=>whnf))|(with_reducible first|refine z3 ?_|refine z4 ?_|refine z7 ?_|refine z8 ?_)|((with_reducible refine z29 ?_);intro A B hA hB;(conv=>whnf))|(with_reducible first|refine z1 ?_|refine z2 ?_|refine z10 ?_|refine z11 ?_|refine z19 ?_)|((with_reducible refine gR ?_);(refine z31 rfl ?_;intro K hK;(conv=>whnf)))))
      all_goals exact ⟨rfl,MemFits.pre 1 rfl⟩
  · rw [Au.small_big hb]
    by_cases h1:l.length≤100
    · (repeat' (first|(with_reducible first|(refine hK _ _ ?_;clear hK K)|(refine hA ?_;clear hA hB A B)|(refine hK _ ?_;clear hK K))|((with_reducible first|refine z25 ?_|refine z26 ?_);intro K hK;(conv=>whnf))|(with_reducible refine z0 ?_)|((first|((with_reducible refine NIf.decY ?s ?_);case s=>omega)|((with_reducible refine NIf.decN ?s ?_);case s=>omega)|((with_reducible refine NH.mk ?s ?_);case s=>(and_intros<;>omega)))<;>(conv=>whnf))|(with_reducible first|refine z3 ?_|refine z4 ?_|refine z8 ?_)|((with_reducible refine z29 ?_);intro A B hA hB;(conv=>whnf))|(with_reducible first|refine z1 ?_|refine z2 ?_|refine z12 ?_)|((with_reducible refine gR ?_);(refine z31 rfl ?_;intro K hK;(conv=>whnf)))|((with_reducible refine gF ?_);(refine z33 rfl ?_;intro K hK;(conv=>whnf)))|((intro _;skip)<;>(conv=>whnf))))
      all_goals first | (exfalso;omega) | exact ⟨rfl,MemFits.pre 1 rfl⟩
    · (repeat' (first|(with_reducible first|(refine hK _ _ ?_;clear hK K)|(refine hA ?_;clear hA hB A B)|(refine hK _ ?_;clear hK K))|((with_reducible first|refine z25 ?_|refine z26 ?_);intro K hK;(conv=>whnf))|(with_reducible refine z0 ?_)|((first|((with_reducible refine NIf.yes ?s ?_);case s=>(simp ;done))|((with_reducible refine NIf.decY ?s ?_);case s=>omega)|((with_reducible refine NH.mk ?s ?_);case s=>(and_intros<;>omega)))<;>(conv=>whnf))|(with_reducible first|refine z3 ?_|refine z4 ?_|refine z8 ?_)|((with_reducible refine z29 ?_);intro A B hA hB;(conv=>whnf))|(with_reducible first|refine z1 ?_|refine z2 ?_|refine z12 ?_)|((with_reducible refine gR ?_);(refine z31 rfl ?_;intro K hK;(conv=>whnf)))|((with_reducible refine gF ?_);(refine z33 rfl ?_;intro K hK;(conv=>whnf)))|((intro _;skip)<;>(conv=>whnf))))
      all_goals first | (exfalso;omega) | exact ⟨rfl,MemFits.pre 1 rfl⟩
end Go.Proofs.Ytijkmhmgigaieaa
