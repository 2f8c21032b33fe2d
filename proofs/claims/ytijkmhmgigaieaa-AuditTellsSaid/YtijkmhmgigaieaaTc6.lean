import Derived.Test.YtijkmhmgigaieaaTc2
import Derived.Test.YtijkmhmgigaieaaSxK
namespace Go.Proofs.Ytijkmhmgigaieaa
open Go.Sx
set_option maxRecDepth 20000
set_option linter.unusedSimpArgs false
set_option linter.unusedVariables false
set_option maxHeartbeats 4000000
set_option linter.unusedVariables false
namespace Tc
deriving instance DecidableEq for C
end Tc
namespace Tc
def twice (l:List Int):Bool:=!decide l.Nodup
theorem nodup_take {l:List Int} {i:Nat} (hi:i<l.length):(l.take (i+1)).Nodup↔(l.take i).Nodup∧∀ k,k<i→l[k]?≠some l[i]:=by
  rw [List.take_succ_eq_append_getElem hi,List.nodup_append]
  constructor
  · rintro ⟨h1,_,h3⟩
    refine ⟨h1,fun k hk e=>?_⟩
    obtain ⟨hk2,e⟩:=List.getElem?_eq_some_iff.1 e
    refine h3 l[k] ?_ l[i] (by simp) e
    rw [List.mem_take_iff_getElem]
    exact ⟨k,by omega,rfl⟩
  · rintro ⟨h1,h2⟩
    refine ⟨h1,by simp,fun a ha b hb e=>?_⟩
    rw [List.mem_singleton] at hb
    subst hb
    rw [List.mem_take_iff_getElem] at ha
    obtain ⟨k,hk,rfl⟩:=ha
    exact h2 k (by omega) (by rw [List.getElem?_eq_getElem (by omega),e])
end Tc
theorem reftwice41_c (F:Heap) (l:List Int) (v:Value) (hv:Tc.IRow F v l) (hl:l.length≤1000):NCall Try.prog 34 [.hs v l.length] [hpB F] fun r m=>r = .bool (Tc.twice l)∧m=[hpB F]:=by
  refine NCall.fits (K:=fun r m=>r = .bool (Tc.twice l)∧MemFits m [hpB F]) ?_ fun r m' h=>⟨r,_,rfl,h.2,h.1,rfl⟩
  have hok:=hv.ok
  refine ncall_of Try.func34 rfl (by decide) ?_
  (repeat' (first|(with_reducible first|(refine hK _ _ ?_;clear hK K)|(refine hK _ ?_;clear hK K))|((with_reducible refine z25 ?_);intro K hK;(conv=>whnf))|(with_reducible first|refine z0 ?_|refine z3 ?_|refine z4 ?_|refine z5 ?_|refine z1 ?_|refine z2 ?_)|((with_reducible refine gF ?_);(refine z33 rfl ?_;intro K hK;(conv=>whnf)))))
  refine st_auto (α:=Nat) (fun i=>i≤l.length∧(l.take i).Nodup) (fun i=>[.keep,.keep,.set (.bool false),.set (.int .i64 i),.drop,.drop,.drop,.drop,.drop,.drop,.drop,.drop,.drop,.drop,.drop,.drop,.drop,.drop,.drop,.drop,.drop,.drop,.drop,.drop,.drop]) (fun _=>[]) (fun i=>l.length - i) 0 ⟨Nat.zero_le _,by simp⟩ ?_ (MemFits.eq rfl) ?_
  · repeat (first|exact FitsSl.nil|refine FitsSl.any ?_|refine FitsSl.cons (Fit1.int (by first | rfl | omega)) ?_|refine FitsSl.cons (Fit1.bool rfl) ?_|refine FitsSl.cons (Fit1.same (by intro h;cases h) (by with_reducible rfl)) ?_)
  (intro i ⟨hi,hno⟩;intro K hK;(conv=>whnf);refine hK _ _ ?_;clear hK K)
  by_cases hlt:i<l.length
  · have hx:l[i]?=some l[i]:=List.getElem?_eq_getElem hlt
    have c0:=hv.get hx
    have hnd:=Tc.nodup_take hlt
    have hbad:∀ k,k<i→l[k]?=some l[i]→Tc.twice l=true:=fun k hk e=>by
      unfold Tc.twice
      rw [decide_eq_false]
      · rfl
      · intro hN
        exact (hnd.1 (hN.sublist (List.take_sublist _ _))).2 k hk e
    generalize l[i]=x at *
    (repeat' (first|(with_reducible first|(refine hK _ _ ?_;clear hK K)|(refine hA ?_;clear hA hB A B))|((with_reducible refine z25 ?_);intro K hK;(conv=>whnf))|(with_reducible refine z0 ?_)|((first|((with_reducible refine NIf.decY ?s ?_);case s=>omega)|((with_reducible refine NH.mk ?s ?_);case s=>(and_intros<;>omega)))<;>(conv=>whnf))|(with_reducible first|refine z3 ?_|refine z4 ?_|refine z5 ?_|refine z6 ?_)|((with_reducible refine z29 ?_);intro A B hA hB;(conv=>whnf))|(with_reducible first|refine z1 ?_|refine z2 ?_)))
    refine st_auto (α:=Nat) (fun k=>k≤i∧∀ j,j<k→l[j]?≠some x) (fun k=>[.keep,.keep,.set (.bool false),.keep,.set (.int .i64 k),.keep,.keep,.keep,.keep,.keep,.keep,.drop,.drop,.drop,.drop,.drop,.drop,.drop,.drop,.drop,.drop,.drop,.drop,.drop,.drop]) (fun _=>[]) (fun k=>i - k) 0 ⟨Nat.zero_le _,fun j h=>absurd h (Nat.not_lt_zero _)⟩ ?_ (MemFits.eq rfl) ?_
    · repeat (first|exact FitsSl.nil|refine FitsSl.any ?_|refine FitsSl.cons (Fit1.int (by first | rfl | omega)) ?_|refine FitsSl.cons (Fit1.bool rfl) ?_|refine FitsSl.cons (Fit1.same (by intro h;cases h) (by with_reducible rfl)) ?_)
    (intro k ⟨hk,hne⟩;intro K hK;(conv=>whnf);refine hK _ _ ?_;clear hK K)
    by_cases hki:k<i
    · have hy:l[k]?=some (l[k]'(by omega)):=List.getElem?_eq_getElem (by omega)
      have d0:=hv.get hy
      have hbk:=hbad k hki
      rw [hy] at hbk
      have hnx:l[k]'(by omega)≠x→∀ j,j<k+1→l[j]?≠some x:=fun e j hj=>by
        rcases Nat.lt_or_ge j k with h | h
        · exact hne j h
        · obtain rfl:j=k:=by omega
          rw [hy]
          simpa using e
      generalize l[k]'(by omega)=y at *
      by_cases hxy:x=y
      · subst hxy
        (repeat' (first|(with_reducible first|(refine hK _ _ ?_;clear hK K)|(refine hA ?_;clear hA hB A B)|(refine hK _ ?_;clear hK K))|((with_reducible refine z25 ?_);intro K hK;(conv=>whnf))|(with_reducible refine z0 ?_)|((first|((with_reducible refine NIf.yes ?s ?_);case s=>(simp ;done))|((with_reducible refine NIf.decY ?s ?_);case s=>omega)|(with_reducible first|refine NN.cast ?_|refine NN.a2 ?_)|((with_reducible refine NH.mk ?s ?_);case s=>(and_intros<;>omega))|(with_reducible refine NLd.of (by with_reducible assumption) ?_))<;>(conv=>whnf))|(with_reducible refine st_ordSout ?_)|((with_reducible refine gNOK ?_);(first|(refine st_ordK1 rfl (by kernel_rfl) rfl ?_;intro K hK;(conv=>whnf))|refine st_ordK0 rfl (by kernel_rfl) ?_))|((with_reducible refine gX ?_);(first|refine st_orderS [] rfl rfl (by kernel_rfl) _ rfl ?_|(with_reducible first|refine z3 ?_|refine z4 ?_|refine z5 ?_|refine z6 ?_|refine z8 ?_)|((with_reducible refine z29 ?_);intro A B hA hB;(conv=>whnf))))|(with_reducible first|refine z1 ?_|refine z2 ?_|refine z12 ?_|refine z13 ?_|refine z20 ?_)|((with_reducible refine gR ?_);(refine z31 rfl ?_;intro K hK;(conv=>whnf)))))
        all_goals exact ⟨by rw [hbk rfl],MemFits.pre 1 rfl⟩
      · (repeat' (first|(with_reducible first|(refine hK _ _ ?_;clear hK K)|(refine hA ?_;clear hA hB A B)|(refine hB ?_;clear hA hB A B)|(refine hK _ ?_;clear hK K))|((with_reducible refine z25 ?_);intro K hK;(conv=>whnf))|(with_reducible refine z0 ?_)|((first|((with_reducible refine NV.i64 ?s ?_);case s=>omega)|((with_reducible refine NIf.no ?s ?_);case s=>(simp [hxy];done))|((with_reducible refine NIf.decY ?s ?_);case s=>omega)|(with_reducible first|refine NN.cast ?_|refine NN.a2 ?_)|((with_reducible refine NH.mk ?s ?_);case s=>(and_intros<;>omega))|(with_reducible refine NLd.of (by with_reducible assumption) ?_))<;>(conv=>whnf))|(with_reducible refine st_ordSout ?_)|((with_reducible refine gNOK ?_);(first|(refine st_ordK1 rfl (by kernel_rfl) rfl ?_;intro K hK;(conv=>whnf))|refine st_ordK0 rfl (by kernel_rfl) ?_))|((with_reducible refine gX ?_);(first|refine st_orderS [] rfl rfl (by kernel_rfl) _ rfl ?_|(with_reducible first|refine z3 ?_|refine z4 ?_|refine z5 ?_|refine z6 ?_)|((with_reducible refine z29 ?_);intro A B hA hB;(conv=>whnf))))|(with_reducible first|refine z1 ?_|refine z2 ?_|refine z9 ?_)))
        all_goals refine st_round (k+1) ⟨hki,hnx (Ne.symm hxy)⟩ (by omega) ?_ (MemFits.eq rfl)
        all_goals repeat (first|exact FitsSl.nil|refine FitsSl.any ?_|refine FitsSl.cons (Fit1.int (by first | rfl | omega)) ?_|refine FitsSl.cons (Fit1.bool rfl) ?_|refine FitsSl.cons (Fit1.same (by intro h;cases h) (by with_reducible rfl)) ?_)
    · obtain rfl:k=i:=by omega
      (repeat' (first|(with_reducible first|(refine hK _ _ ?_;clear hK K)|(refine hB ?_;clear hA hB A B))|((with_reducible refine z25 ?_);intro K hK;(conv=>whnf))|(with_reducible refine z0 ?_)|((first|((with_reducible refine NV.i64 ?s ?_);case s=>omega)|((with_reducible refine NIf.decN ?s ?_);case s=>omega))<;>(conv=>whnf))|(with_reducible first|refine z3 ?_|refine z4 ?_|refine z7 ?_)|((with_reducible refine z29 ?_);intro A B hA hB;(conv=>whnf))|(with_reducible first|refine z1 ?_|refine z2 ?_|refine z9 ?_|refine z10 ?_|refine z11 ?_|refine z19 ?_)))
      all_goals refine st_round (k+1) ⟨hlt,hnd.2 ⟨hno,hne⟩⟩ (by omega) ?_ (MemFits.eq rfl)
      all_goals repeat (first|exact FitsSl.nil|refine FitsSl.any ?_|refine FitsSl.cons (Fit1.int (by first | rfl | omega)) ?_|refine FitsSl.cons (Fit1.bool rfl) ?_|refine FitsSl.cons (Fit1.same (by intro h;cases h) (by with_reducible rfl)) ?_)
  · have hkl:i=l.length:=by omega
    rw [hkl,List.take_length] at hno
    have:Tc.twice l=false:=by unfold Tc.twice;rw [decide_eq_true hno];rfl
    (repeat' (first|(with_reducible first|(refine hK _ _ ?_;clear hK K)|(refine hB ?_;clear hA hB A B)|(refine hK _ ?_;clear hK K))|((with_reducible refine z25 ?_);intro K hK;(conv=>whnf))|(with_reducible refine z0 ?_)|((first|((with_reducible refine NIf.decN ?s ?_);case s=>omega)|((with_reducible refine NH.mk ?s ?_);case s=>(and_intros<;>omega)))<;>(conv=>whnf))|(with_reducible first|refine z3 ?_|refine z4 ?_|refine z7 ?_|refine z8 ?_)|((with_reducible refine z29 ?_);intro A B hA hB;(conv=>whnf))|(with_reducible first|refine z1 ?_|refine z2 ?_|refine z10 ?_|refine z11 ?_|refine z19 ?_)|((with_reducible refine gR ?_);(refine z31 rfl ?_;intro K hK;(conv=>whnf)))))
    all_goals exact ⟨by rw [this],MemFits.pre 1 rfl⟩
end Go.Proofs.Ytijkmhmgigaieaa
