import Derived.Test.YtgphhbadnjfbjaaDoorSu19
namespace Go.Proofs.YtgphhbadnjfbjaaDoor
open Go.Sx
set_option maxRecDepth 20000
set_option linter.unusedSimpArgs false
set_option linter.unusedVariables false
set_option maxHeartbeats 8000000
set_option linter.unusedVariables false
namespace Su
theorem hval_take {t:L} {k:Nat} (h:k<t.length):hval (t.take (k+1))=16*hval (t.take k)+hv (t.getD k 0):=by
  rw [List.take_succ_eq_append_getElem h,hval_snoc,List.getD_eq_getElem?_getD,List.getElem?_eq_getElem h];rfl
theorem hx_next (n d:Nat) (hd:d<16):IntKind.u64.wrap (IntKind.u64.wrap (16*((n % 18446744073709551616:Nat):Int))+(d:Int))=(((16*n+d) % 18446744073709551616:Nat):Int):=by
  unfold IntKind.wrap
  simp [IntKind.bits,IntKind.signed]
  omega
end Su
theorem refhexa40_c (s:List UInt8) (hs:s.length≤1000000):NCall Tryd.prog 52 [.str s] [] fun r _=>∃ x:Nat,r = .tup [.int .u64 x,.bool (Su.hex s).isSome]∧x<18446744073709551616∧∀ n,Su.hex s=some n→x=n:=by
  refine ncall_of Tryd.func52 rfl (by decide) ?_
  (repeat' (first|(with_reducible first|(refine hK _ _ ?_;clear hK K)|(refine hK _ ?_;clear hK K))|((with_reducible refine z25 ?_);intro K hK;(conv=>whnf))|(with_reducible first|refine z0 ?_|refine z3 ?_|refine z4 ?_|refine z5 ?_|refine z1 ?_|refine z2 ?_)|((with_reducible refine gF ?_);(refine z33 rfl ?_;intro K hK;(conv=>whnf)))))
  refine st_auto (α:=Nat) (fun i=>i≤s.length) (fun i=>[.keep,.keep,.keep,.keep,.set (.int .u64 (Su.hval (s.take i) % 18446744073709551616:Nat)),.set (.int .i64 i),.drop,.drop,.drop,.drop,.drop,.drop,.drop,.drop,.drop,.drop,.drop,.drop,.drop,.drop,.drop,.drop,.drop,.drop,.drop,.drop,.drop,.drop,.drop,.drop,.drop,.drop,.drop,.drop,.drop,.drop,.drop,.drop,.drop,.drop,.drop,.drop,.drop,.drop,.drop,.drop,.drop,.keep,.keep,.keep,.keep,.keep,.keep,.keep,.keep,.keep,.keep]) (fun _=>[]) (fun i=>s.length - i) 0 (Nat.zero_le _) ?_ (MemFits.eq rfl) ?_
  · repeat (first|exact FitsSl.nil|refine FitsSl.any ?_|refine FitsSl.cons (Fit1.int (by first | rfl | omega)) ?_|refine FitsSl.cons (Fit1.bool rfl) ?_|refine FitsSl.cons (Fit1.str rfl) ?_)
  (intro i hi;intro K hK;(conv=>whnf);refine hK _ _ ?_;clear hK K)
  by_cases hlt:i<s.length
  · have hnx:=Su.hval_take hlt
    have hd:Su.hv (s.getD i 0)<16:=by unfold Su.hv;split<;>(try split)<;>omega
    have hw:=Su.hx_next (Su.hval (s.take i)) (Su.hv (s.getD i 0)) hd
    rw [← hnx] at hw
    have hh:Su.hv (s.getD i 0)=if 48≤(s.getD i 0).toNat∧(s.getD i 0).toNat≤57 then (s.getD i 0).toNat - 48 else if 97≤(s.getD i 0).toNat∧(s.getD i 0).toNat≤102 then (s.getD i 0).toNat - 87 else 0:=rfl
    clear hnx
    generalize Su.hv (s.getD i 0)=d at *
    obtain ⟨n2,hn2⟩:∃ n2,n2=Su.hval (s.take (i+1)) % 18446744073709551616:=⟨_,rfl⟩
    rw [← hn2] at hw
    generalize Su.hval (s.take i) % 18446744073709551616=n at *
    by_cases h1:48≤(s.getD i 0).toNat∧(s.getD i 0).toNat≤57
    · rw [if_pos h1] at hh
      have hw1:IntKind.u64.wrap (IntKind.u64.wrap (16*(n:Int))+(((s.getD i 0).toNat:Int) - 48))=(n2:Int):=by rw [← hw];congr 2;omega
      (repeat' (first|(with_reducible first|(refine hK _ _ ?_;clear hK K)|(refine hA ?_;clear hA hB A B)|(refine hB ?_;clear hA hB A B))|((with_reducible first|refine z25 ?_|refine z26 ?_);intro K hK;(conv=>whnf))|(with_reducible refine z0 ?_)|((first|(with_reducible refine NV.eq (hw1) ?_)|((with_reducible first|refine NV.i64 ?s ?_|refine NV.u64 ?s ?_);case s=>omega)|(with_reducible refine NV.keep ?_)|((with_reducible refine NIf.decY ?s ?_);case s=>omega)|((with_reducible refine NIf.decN ?s ?_);case s=>omega)|((with_reducible refine NIf.no ?s ?_);case s=>rfl)|(with_reducible refine NN.cast ?_)|((with_reducible refine NH.mk ?s ?_);case s=>(and_intros<;>omega)))<;>(conv=>whnf))|(with_reducible first|refine z3 ?_|refine z4 ?_|refine z5 ?_|refine z6 ?_)|((with_reducible refine z29 ?_);intro A B hA hB;(conv=>whnf))|(with_reducible first|refine z1 ?_|refine z2 ?_|refine z9 ?_)))
      all_goals try (exfalso;omega)
      all_goals refine st_round (i+1) hlt (by omega) ?_ (MemFits.eq rfl)
      all_goals rw [← hn2]
      all_goals repeat (first|exact FitsSl.nil|refine FitsSl.any ?_|refine FitsSl.cons (Fit1.int (by first | rfl | omega)) ?_|refine FitsSl.cons (Fit1.bool rfl) ?_|refine FitsSl.cons (Fit1.str rfl) ?_)
    · rw [if_neg h1] at hh
      by_cases h2:97≤(s.getD i 0).toNat∧(s.getD i 0).toNat≤102
      · rw [if_pos h2] at hh
        have hw1:IntKind.u64.wrap (IntKind.u64.wrap (16*(n:Int))+(((s.getD i 0).toNat:Int) - 87))=(n2:Int):=by rw [← hw];congr 2;omega
        (repeat' (first|(with_reducible first|(refine hK _ _ ?_;clear hK K)|(refine hA ?_;clear hA hB A B)|(refine hB ?_;clear hA hB A B))|((with_reducible first|refine z25 ?_|refine z26 ?_);intro K hK;(conv=>whnf))|(with_reducible refine z0 ?_)|((first|(with_reducible refine NV.eq (hw1) ?_)|((with_reducible first|refine NV.i64 ?s ?_|refine NV.u64 ?s ?_);case s=>omega)|(with_reducible refine NV.keep ?_)|((with_reducible refine NIf.decY ?s ?_);case s=>omega)|((with_reducible refine NIf.decN ?s ?_);case s=>omega)|(with_reducible refine NN.cast ?_)|((with_reducible refine NH.mk ?s ?_);case s=>(and_intros<;>omega)))<;>(conv=>whnf))|(with_reducible first|refine z3 ?_|refine z4 ?_|refine z5 ?_|refine z6 ?_)|((with_reducible refine z29 ?_);intro A B hA hB;(conv=>whnf))|(with_reducible first|refine z1 ?_|refine z2 ?_|refine z9 ?_)))
        all_goals try (exfalso;omega)
        all_goals refine st_round (i+1) hlt (by omega) ?_ (MemFits.eq rfl)
        all_goals rw [← hn2]
        all_goals repeat (first|exact FitsSl.nil|refine FitsSl.any ?_|refine FitsSl.cons (Fit1.int (by first | rfl | omega)) ?_|refine FitsSl.cons (Fit1.bool rfl) ?_|refine FitsSl.cons (Fit1.str rfl) ?_)
      · rw [if_neg h2] at hh
        subst hh
        have hw1:IntKind.u64.wrap (IntKind.u64.wrap (16*(n:Int))+0)=(n2:Int):=hw
        by_cases h3:48≤(s.getD i 0).toNat
        · by_cases h4:97≤(s.getD i 0).toNat
          · (repeat' (first|(with_reducible first|(refine hK _ _ ?_;clear hK K)|(refine hA ?_;clear hA hB A B)|(refine hB ?_;clear hA hB A B))|((with_reducible first|refine z25 ?_|refine z26 ?_);intro K hK;(conv=>whnf))|(with_reducible refine z0 ?_)|((first|(with_reducible refine NV.eq (hw1) ?_)|((with_reducible first|refine NV.i64 ?s ?_|refine NV.u64 ?s ?_);case s=>omega)|(with_reducible refine NV.keep ?_)|((with_reducible refine NIf.decY ?s ?_);case s=>omega)|((with_reducible refine NIf.decN ?s ?_);case s=>omega)|(with_reducible refine NN.cast ?_)|((with_reducible refine NH.mk ?s ?_);case s=>(and_intros<;>omega)))<;>(conv=>whnf))|(with_reducible first|refine z3 ?_|refine z4 ?_|refine z5 ?_|refine z6 ?_)|((with_reducible refine z29 ?_);intro A B hA hB;(conv=>whnf))|(with_reducible first|refine z1 ?_|refine z2 ?_|refine z9 ?_)))
            all_goals try (exfalso;omega)
            all_goals refine st_round (i+1) hlt (by omega) ?_ (MemFits.eq rfl)
            all_goals rw [← hn2]
            all_goals repeat (first|exact FitsSl.nil|refine FitsSl.any ?_|refine FitsSl.cons (Fit1.int (by first | rfl | omega)) ?_|refine FitsSl.cons (Fit1.bool rfl) ?_|refine FitsSl.cons (Fit1.str rfl) ?_)
          · (repeat' (first|(with_reducible first|(refine hK _ _ ?_;clear hK K)|(refine hA ?_;clear hA hB A B)|(refine hB ?_;clear hA hB A B))|((with_reducible first|refine z25 ?_|refine z26 ?_);intro K hK;(conv=>whnf))|(with_reducible refine z0 ?_)|((first|(with_reducible refine NV.eq (hw1) ?_)|((with_reducible first|refine NV.i64 ?s ?_|refine NV.u64 ?s ?_);case s=>omega)|(with_reducible refine NV.keep ?_)|((with_reducible refine NIf.decY ?s ?_);case s=>omega)|((with_reducible refine NIf.decN ?s ?_);case s=>omega)|((with_reducible refine NIf.no ?s ?_);case s=>rfl)|(with_reducible refine NN.cast ?_)|((with_reducible refine NH.mk ?s ?_);case s=>(and_intros<;>omega)))<;>(conv=>whnf))|(with_reducible first|refine z3 ?_|refine z4 ?_|refine z5 ?_|refine z6 ?_)|((with_reducible refine z29 ?_);intro A B hA hB;(conv=>whnf))|(with_reducible first|refine z1 ?_|refine z2 ?_|refine z9 ?_)))
            all_goals try (exfalso;omega)
            all_goals refine st_round (i+1) hlt (by omega) ?_ (MemFits.eq rfl)
            all_goals rw [← hn2]
            all_goals repeat (first|exact FitsSl.nil|refine FitsSl.any ?_|refine FitsSl.cons (Fit1.int (by first | rfl | omega)) ?_|refine FitsSl.cons (Fit1.bool rfl) ?_|refine FitsSl.cons (Fit1.str rfl) ?_)
        · (repeat' (first|(with_reducible first|(refine hK _ _ ?_;clear hK K)|(refine hA ?_;clear hA hB A B)|(refine hB ?_;clear hA hB A B))|((with_reducible first|refine z25 ?_|refine z26 ?_);intro K hK;(conv=>whnf))|(with_reducible refine z0 ?_)|((first|(with_reducible refine NV.eq (hw1) ?_)|((with_reducible first|refine NV.i64 ?s ?_|refine NV.u64 ?s ?_);case s=>omega)|(with_reducible refine NV.keep ?_)|((with_reducible refine NIf.decY ?s ?_);case s=>omega)|((with_reducible refine NIf.decN ?s ?_);case s=>omega)|((with_reducible refine NIf.no ?s ?_);case s=>rfl)|(with_reducible refine NN.cast ?_)|((with_reducible refine NH.mk ?s ?_);case s=>(and_intros<;>omega)))<;>(conv=>whnf))|(with_reducible first|refine z3 ?_|refine z4 ?_|refine z5 ?_|refine z6 ?_)|((with_reducible refine z29 ?_);intro A B hA hB;(conv=>whnf))|(with_reducible first|refine z1 ?_|refine z2 ?_|refine z9 ?_)))
          all_goals try (exfalso;omega)
          all_goals refine st_round (i+1) hlt (by omega) ?_ (MemFits.eq rfl)
          all_goals rw [← hn2]
          all_goals repeat (first|exact FitsSl.nil|refine FitsSl.any ?_|refine FitsSl.cons (Fit1.int (by first | rfl | omega)) ?_|refine FitsSl.cons (Fit1.bool rfl) ?_|refine FitsSl.cons (Fit1.str rfl) ?_)
  · obtain rfl:i=s.length:=by omega
    rw [List.take_length]
    have hlt2:Su.hval s % 18446744073709551616<18446744073709551616:=Nat.mod_lt _ (by decide)
    have cb:=refbits40_c (Su.hval s % 18446744073709551616) hlt2
    have hz:=Su.bits_len (Su.hval s % 18446744073709551616)
    by_cases hl:s.length=16
    · have hv:Su.hval s % 18446744073709551616=Su.hval s:=by
        refine Nat.mod_eq_of_lt ?_
        have:=Su.hval_lt 16 s (by omega)
        rw [hl] at this
        exact this
      rw [hv] at cb hz hlt2 ⊢
      have hdef:Su.hex s=if s.length=16∧Su.bits (Su.hval s)=s then some (Su.hval s) else none:=rfl
      generalize Su.hval s=x at *
      by_cases he:Su.bits x=s
      · rw [he] at cb
        rw [if_pos ⟨hl,he⟩] at hdef
        rw [hdef]
        (repeat' (first|(with_reducible first|(refine hK _ _ ?_;clear hK K)|(refine hB ?_;clear hA hB A B)|(refine hK _ ?_;clear hK K))|((with_reducible first|refine z25 ?_|refine z26 ?_);intro K hK;(conv=>whnf))|(with_reducible refine z0 ?_)|((first|((with_reducible refine NIf.no ?s ?_);case s=>(simp ;done))|((with_reducible refine NIf.decY ?s ?_);case s=>omega)|((with_reducible refine NCall.isF 29 ?_);refine NCall.pureE (cb) ?_))<;>(conv=>whnf))|(with_reducible first|refine z3 ?_|refine z4 ?_|refine z7 ?_|refine z8 ?_)|((with_reducible refine z29 ?_);intro A B hA hB;(conv=>whnf))|(with_reducible first|refine z1 ?_|refine z2 ?_|refine z10 ?_|refine z11 ?_|refine z19 ?_)|((with_reducible refine gR ?_);(refine z31 rfl ?_;intro K hK;(conv=>whnf)))))
        all_goals first | (exfalso;omega) | exact ⟨x,rfl,hlt2,fun n h=>by injection h⟩ | exact ⟨x,congrArg (fun b=>AV.tup [.int .u64 x,.bool b]) (decide_eq_true rfl),hlt2,fun n h=>by injection h⟩
      · rw [if_neg fun h=>he h.2] at hdef
        rw [hdef]
        generalize Su.bits x=z at *
        (repeat' (first|(with_reducible first|(refine hK _ _ ?_;clear hK K)|(refine hB ?_;clear hA hB A B)|(refine hK _ ?_;clear hK K))|((with_reducible first|refine z25 ?_|refine z26 ?_);intro K hK;(conv=>whnf))|(with_reducible refine z0 ?_)|((first|((with_reducible refine NIf.no ?s ?_);case s=>(simp [he];done))|((with_reducible refine NIf.decY ?s ?_);case s=>omega)|((with_reducible refine NCall.isF 29 ?_);refine NCall.pureE (cb) ?_))<;>(conv=>whnf))|(with_reducible first|refine z3 ?_|refine z4 ?_|refine z7 ?_|refine z8 ?_)|((with_reducible refine z29 ?_);intro A B hA hB;(conv=>whnf))|(with_reducible first|refine z1 ?_|refine z2 ?_|refine z10 ?_|refine z11 ?_|refine z19 ?_)|((with_reducible refine gR ?_);(refine z31 rfl ?_;intro K hK;(conv=>whnf)))))
        all_goals first | (exfalso;omega) | exact ⟨x,rfl,hlt2,fun n h=>by cases h⟩ | exact ⟨x,congrArg (fun b=>AV.tup [.int .u64 x,.bool b]) (decide_eq_false he),hlt2,fun n h=>by cases h⟩
    · have hdef:Su.hex s=none:=by unfold Su.hex;rw [if_neg fun h=>hl h.1]
      rw [hdef]
      generalize Su.hval s % 18446744073709551616=x at *
      (repeat' (first|(with_reducible first|(refine hK _ _ ?_;clear hK K)|(refine hB ?_;clear hA hB A B)|(refine hK _ ?_;clear hK K))|((with_reducible first|refine z25 ?_|refine z26 ?_);intro K hK;(conv=>whnf))|(with_reducible refine z0 ?_)|((first|((with_reducible refine NIf.no ?s ?_);case s=>(simp ;done))|((with_reducible refine NIf.decN ?s ?_);case s=>omega))<;>(conv=>whnf))|(with_reducible first|refine z3 ?_|refine z4 ?_|refine z7 ?_|refine z8 ?_)|((with_reducible refine z29 ?_);intro A B hA hB;(conv=>whnf))|(with_reducible first|refine z1 ?_|refine z2 ?_|refine z10 ?_|refine z11 ?_|refine z19 ?_)|((with_reducible refine gR ?_);(refine z31 rfl ?_;intro K hK;(conv=>whnf)))))
      all_goals first | (exfalso;omega) | exact ⟨x,rfl,hlt2,fun n h=>by cases h⟩
end Go.Proofs.YtgphhbadnjfbjaaDoor
