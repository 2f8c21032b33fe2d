import Derived.Test.YtijkmhmgigaieaaAu4
import Derived.Test.YtijkmhmgigaieaaAu11
import Derived.Test.YtijkmhmgigaieaaRt6
namespace Go.Proofs.Ytijkmhmgigaieaa
open Go.Sx
set_option maxRecDepth 20000
set_option linter.unusedSimpArgs false
set_option linter.unusedVariables false
set_option maxHeartbeats 4000000
set_option linter.unusedVariables false
theorem refwalked42_c (F:Heap) (t:Tp.T) (lv hv v:Value) (rs:List (List (List Int))) (ht:Tp.At F t lv hv) (hl:t.ls.length≤1000) (hh:t.hs.length≤1000) (hr:Au.RRow F v rs) (hf:Au.fewR rs) (k:Int) (c:Tc.C) (w:Value) (hw:Tc.IRow F w c.sws) (hcl:c.sws.length≤1000) :
    NCall Try.prog 35 [.agg (Tp.cs t lv hv),.hs v rs.length,.int .i64 k,.agg (Tc.cs c w)] [hpB F] fun u m=>u = .bool (Au.walked t rs k c)∧m=[hpB F]:=by
  refine NCall.fits (K:=fun u m=>u = .bool (Au.walked t rs k c)∧∃ F',F.le F'∧MemFits m [hpB F']) ?_ fun r m' ⟨h1,F',h2,h3⟩=>⟨r,_,rfl,h3.trans (MemFits.less h2 []),h1,rfl⟩
  have hok:=hr.ok
  have hwk:=hw.ok
  have hf1:=hf.1
  have hcW:=fun r rv (hrr:Rt.Row F rv r) (hrf:Rt.few r) s=>refwalk21_c F t lv hv rv r ht hl hh hrr hrf s c.to
  unfold Tp.cs at hcW ⊢
  have hrec:k=k:=rfl
  rcases hsws:c.sws with _ | ⟨s,rest⟩
  · rw [Au.walked_nil hsws]
    have h0:c.sws.length=0:=by rw [hsws];rfl
    obtain ⟨id,fr,to,at_,sws,end_,host,last⟩:=c
    unfold Tc.cs
    dsimp only at *
    refine ncall_of Try.func35 rfl (by decide) ?_
    (repeat' (first|(with_reducible first|(refine hK _ _ ?_;clear hK K)|(refine hA ?_;clear hA hB A B)|(refine hK _ ?_;clear hK K))|((with_reducible refine z25 ?_);intro K hK;(conv=>whnf))|(with_reducible refine z0 ?_)|((first|((with_reducible refine NIf.decY ?s ?_);case s=>omega)|(with_reducible refine NN.a5 ?_)|((with_reducible refine NH.mk ?s ?_);case s=>(and_intros<;>first|with_reducible rfl|omega)))<;>(conv=>whnf))|(with_reducible first|refine z3 ?_|refine z4 ?_|refine z8 ?_)|((with_reducible refine z29 ?_);intro A B hA hB;(conv=>whnf))|(with_reducible first|refine z1 ?_|refine z2 ?_|refine z12 ?_)|((with_reducible refine gR ?_);(refine z31 rfl ?_;intro K hK;(conv=>whnf)))|((with_reducible refine gF ?_);(refine z33 rfl ?_;intro K hK;(conv=>whnf)))|((intro _;skip)<;>(conv=>whnf))))
    all_goals first | (exfalso;omega) | exact ⟨rfl,F,F.le_refl,MemFits.pre 1 rfl⟩
  · have hlen:c.sws.length=rest.length+1:=by rw [hsws];rfl
    have hs0:c.sws[0]?=some s:=by rw [hsws];rfl
    have g0:=hw.get hs0
    by_cases hk:0≤k∧k<rs.length
    · obtain ⟨j,rfl⟩:=Int.eq_ofNat_of_zero_le hk.1
      have hx:rs[j]?=some (rs[j]'(by omega)):=List.getElem?_eq_getElem (by omega)
      obtain ⟨A,cap,hrr,c0⟩:=hr.get hx
      have hrf:=hf.2 _ (List.mem_of_getElem? hx)
      rw [Au.walked_in hsws hx]
      generalize rs[j]'(by omega)=r at *
      have cw:=hcW r _ hrr hrf s
      have hwl:=Rt.walk_len t r s c.to
      have hrok:=hrr.ok
      generalize Rt.walk t r s c.to=W at *
      obtain ⟨way,e⟩:=W
      obtain ⟨id,fr,to,at_,sws,end_,host,last⟩:=c
      unfold Tc.cs
      dsimp only at *
      clear hsws
      refine ncall_of Try.func35 rfl (by decide) ?_
      (repeat' (first|(with_reducible first|(refine hK _ _ ?_;clear hK K)|(refine hB ?_;clear hA hB A B)|(refine hK _ ?_;clear hK K))|((with_reducible first|refine z25 ?_|refine z26 ?_);intro K hK;(conv=>whnf))|(with_reducible refine z0 ?_)|((first|((with_reducible refine NIf.decN ?s ?_);case s=>omega)|(with_reducible refine NN.a5 ?_)|((with_reducible refine NH.mk ?s ?_);case s=>(and_intros<;>first|with_reducible rfl|omega)))<;>(conv=>whnf))|(with_reducible first|refine z3 ?_|refine z4 ?_|refine z6 ?_)|((with_reducible refine z29 ?_);intro A B hA hB;(conv=>whnf))|(with_reducible first|refine z1 ?_|refine z2 ?_)|((with_reducible refine gF ?_);(refine z33 rfl ?_;intro K hK;(conv=>whnf)))|((intro _;skip)<;>(conv=>whnf))))
      all_goals first | (exfalso;omega) | skip
      rename_i b1 b2
      refine st_drawCut (α:=Heap × Value) (fun y=>F.le y.1∧Tc.IRow y.1 y.2 way) (fun y=>((List.replicate 79 .keep).set 9 (.set (.hs y.2 way.length))).set 10 (.set (.int .i64 e))) (fun y=>[.set (hpB y.1)]) ?_ ?_
      · refine st_drawFits (m':=[hpB F,_,_,hpB F]) (FitsSl.refl _) ((MemFits.dup F.le_refl _).trans (MemFits.pick [0,2,3,1] (by decide) rfl)) ?_
        (repeat' (first|(with_reducible first|(refine hK _ _ ?_;clear hK K)|(refine hK _ ?_;clear hK K))|((first|(with_reducible first|refine NN.lit ?_|refine NN.cast ?_|refine NN.a2 ?_|refine NN.a5 ?_)|((with_reducible refine NH.mk ?s ?_);case s=>(and_intros<;>first|((with_reducible refine gKept ?_);exact rfl)|omega|rfl))|((with_reducible refine NCall.isF 10 ?_);refine NCall.subw [3] _ _ (cw) rfl (by decide) rfl ?_;rintro _ _ ⟨G,x,hle,hxr,rfl,rfl⟩;refine ⟨Nat.le_of_ble_eq_true rfl,_,rfl,?_⟩)|(with_reducible refine NLd.of (by with_reducible assumption) ?_))<;>(conv=>whnf))|(with_reducible refine st_ordSout ?_)|((with_reducible refine gNOK ?_);(first|(refine st_ordK1 rfl (by kernel_rfl) rfl ?_;intro K hK;(conv=>whnf))|refine st_ordK0 rfl (by kernel_rfl) ?_|refine st_ordKA rfl rfl (by kernel_rfl) (by intro h;cases h) ?_))|((with_reducible refine gNEK ?_);(first|(refine st_eachK ?_ ?_;(intro K hK;(conv=>whnf)))|exact st_eachK0))|((with_reducible refine gX ?_);refine st_orderS [3] rfl rfl (by kernel_rfl) _ rfl ?_)|(with_reducible refine z1 ?_)))
        all_goals
          refine cut_done (G,x) ⟨hle,hxr⟩ ?_ (MemFits.pick [3,1,2] (by decide) rfl)
          repeat (first|exact FitsSl.nil|refine FitsSl.any ?_|refine FitsSl.cons (Fit1.int (by first | rfl | omega)) ?_|refine FitsSl.cons (Fit1.bool rfl) ?_|refine FitsSl.cons (Fit1.same (by intro h;cases h) (by with_reducible rfl)) ?_)
      (intro ⟨G,x⟩ ⟨hle,hxr⟩;intro K hK;(conv=>whnf);refine hK _ _ ?_;clear hK K)
      dsimp only at hle hxr ⊢
      have hwG:=Tc.irow_mono hle hw
      have hxk:=hxr.ok
      have hwk':=hwG.ok
      by_cases h1:e=0∧sws.length≤way.length
      · rw [decide_eq_true h1.1,decide_eq_true h1.2,Bool.true_and,Bool.true_and]
        have h11:=h1.1
        have h12:=h1.2
        by_cases h2:end_=0∨way.length≤sws.length
        · rw [show (decide (end_=0)||decide (way.length≤sws.length))=true by simpa using h2,Bool.true_and]
          (repeat' (first|(with_reducible first|(refine hK _ _ ?_;clear hK K)|(refine hB ?_;clear hA hB A B))|((with_reducible first|refine z25 ?_|refine z26 ?_);intro K hK;(conv=>whnf))|(with_reducible refine z0 ?_)|((first|((with_reducible refine NIf.no ?s ?_);case s=>(simp [h11];done))|with_reducible refine NIf.not_ ?_|((with_reducible refine NIf.decY ?s ?_);case s=>first|assumption|omega)|((with_reducible refine NIf.decN ?s ?_);case s=>first|assumption|omega)|(with_reducible first|refine NIf.dec (fun _=>?_) (fun _=>?_)|refine NN.a5 ?_)|((with_reducible refine NH.mk ?s ?_);case s=>(and_intros<;>first|with_reducible rfl|omega)))<;>(conv=>whnf))|(with_reducible first|refine z3 ?_|refine z4 ?_|refine z5 ?_|refine z6 ?_)|((with_reducible refine z29 ?_);intro A B hA hB;(conv=>whnf))|(with_reducible first|refine z1 ?_|refine z2 ?_)))
          all_goals first | (exfalso;omega) | skip
          all_goals
            refine st_auto (α:=Nat) (fun i=>i≤sws.length∧way.take i=sws.take i) (fun i=>[.keep,.keep,.keep,.keep,.keep,.keep,.keep,.keep,.set (.bool false),.keep,.keep,.set (.int .i64 i),.keep,.keep,.keep,.keep,.keep,.keep,.keep,.keep,.keep,.keep,.keep,.keep,.keep,.keep,.keep,.keep,.keep,.keep,.keep,.keep,.keep,.keep,.keep,.keep,.keep,.keep,.keep,.keep,.keep,.keep,.keep,.keep,.keep,.keep,.keep,.keep,.keep,.keep,.keep,.keep,.keep,.keep,.keep,.keep,.keep,.keep,.keep,.keep,.keep,.keep,.drop,.drop,.drop,.drop,.drop,.drop,.drop,.drop,.drop,.drop,.drop,.drop,.drop,.drop,.drop,.drop,.drop]) (fun _=>[.keep,.keep,.keep]) (fun i=>sws.length - i) 0 ⟨Nat.zero_le _,rfl⟩ ?_ (MemFits.eq rfl) ?_
            · repeat (first|exact FitsSl.nil|refine FitsSl.any ?_|refine FitsSl.cons (Fit1.int (by first | rfl | omega)) ?_|refine FitsSl.cons (Fit1.bool rfl) ?_|refine FitsSl.cons (Fit1.same (by intro h;cases h) (by with_reducible rfl)) ?_)
            (intro i ⟨hi,heq⟩;intro K hK;(conv=>whnf);refine hK _ _ ?_;clear hK K)
            by_cases hlt:i<sws.length
            · have hx1:way[i]?=some (way[i]'(by omega)):=List.getElem?_eq_getElem (by omega)
              have hy1:sws[i]?=some sws[i]:=List.getElem?_eq_getElem hlt
              have k0:=hxr.get hx1
              have d0:=hwG.get hy1
              have hnx:way[i]'(by omega)=sws[i]→way.take (i+1)=sws.take (i+1):=fun e=>by rw [List.take_add_one,List.take_add_one,hx1,hy1,heq,e]
              have hno:way[i]'(by omega)≠sws[i]→way.take sws.length≠sws:=fun e h=>by
                have h5:(way.take sws.length)[i]?=some (way[i]'(by omega)):=by rw [List.getElem?_take_of_lt hlt,hx1]
                rw [h,hy1] at h5
                exact e (by simpa using h5.symm)
              generalize way[i]'(by omega)=p at *
              generalize sws[i]=q at *
              by_cases hxy:p=q
              · subst hxy
                (repeat' (first|(with_reducible first|(refine hK _ _ ?_;clear hK K)|(refine hA ?_;clear hA hB A B)|(refine hB ?_;clear hA hB A B)|(refine hK _ ?_;clear hK K))|((with_reducible refine z25 ?_);intro K hK;(conv=>whnf))|(with_reducible refine z0 ?_)|((first|((with_reducible refine NV.i64 ?s ?_);case s=>omega)|((with_reducible refine NIf.no ?s ?_);case s=>(simp ;done))|((with_reducible refine NIf.decY ?s ?_);case s=>omega)|(with_reducible first|refine NN.cast ?_|refine NN.a2 ?_|refine NN.a5 ?_)|((with_reducible refine NH.mk ?s ?_);case s=>(and_intros<;>first|with_reducible rfl|omega|rfl))|(with_reducible refine NLd.of (by with_reducible assumption) ?_))<;>(conv=>whnf))|(with_reducible refine st_ordSout ?_)|((with_reducible refine gNOK ?_);(first|(refine st_ordK1 rfl (by kernel_rfl) rfl ?_;intro K hK;(conv=>whnf))|refine st_ordK0 rfl (by kernel_rfl) ?_))|((with_reducible refine gX ?_);(first|refine st_orderS [] rfl rfl (by kernel_rfl) _ rfl ?_|(with_reducible first|refine z3 ?_|refine z4 ?_|refine z5 ?_|refine z6 ?_)|((with_reducible refine z29 ?_);intro A B hA hB;(conv=>whnf))))|(with_reducible first|refine z1 ?_|refine z2 ?_|refine z9 ?_)))
                all_goals refine st_round (i+1) ⟨hlt,hnx rfl⟩ (by omega) ?_ (MemFits.eq rfl)
                all_goals repeat (first|exact FitsSl.nil|refine FitsSl.any ?_|refine FitsSl.cons (Fit1.int (by first | rfl | omega)) ?_|refine FitsSl.cons (Fit1.bool rfl) ?_|refine FitsSl.cons (Fit1.same (by intro h;cases h) (by with_reducible rfl)) ?_)
              · (repeat' (first|(with_reducible first|(refine hK _ _ ?_;clear hK K)|(refine hA ?_;clear hA hB A B)|(refine hK _ ?_;clear hK K))|((with_reducible refine z25 ?_);intro K hK;(conv=>whnf))|(with_reducible refine z0 ?_)|((first|((with_reducible refine NIf.yes ?s ?_);case s=>(simp [hxy];done))|((with_reducible refine NIf.decY ?s ?_);case s=>omega)|(with_reducible first|refine NN.cast ?_|refine NN.a2 ?_|refine NN.a5 ?_)|((with_reducible refine NH.mk ?s ?_);case s=>(and_intros<;>first|with_reducible rfl|omega|rfl))|(with_reducible refine NLd.of (by with_reducible assumption) ?_))<;>(conv=>whnf))|(with_reducible refine st_ordSout ?_)|((with_reducible refine gNOK ?_);(first|(refine st_ordK1 rfl (by kernel_rfl) rfl ?_;intro K hK;(conv=>whnf))|refine st_ordK0 rfl (by kernel_rfl) ?_))|((with_reducible refine gX ?_);(first|refine st_orderS [] rfl rfl (by kernel_rfl) _ rfl ?_|(with_reducible first|refine z3 ?_|refine z4 ?_|refine z5 ?_|refine z6 ?_|refine z8 ?_)|((with_reducible refine z29 ?_);intro A B hA hB;(conv=>whnf))))|(with_reducible first|refine z1 ?_|refine z2 ?_|refine z12 ?_|refine z13 ?_|refine z20 ?_)|((with_reducible refine gR ?_);(refine z31 rfl ?_;intro K hK;(conv=>whnf)))))
                all_goals exact ⟨by rw [decide_eq_false (hno hxy)],G,hle,MemFits.pre 1 rfl⟩
            · have hkl:i=sws.length:=by omega
              rw [hkl,List.take_length] at heq
              (repeat' (first|(with_reducible first|(refine hK _ _ ?_;clear hK K)|(refine hB ?_;clear hA hB A B)|(refine hK _ ?_;clear hK K))|((with_reducible refine z25 ?_);intro K hK;(conv=>whnf))|(with_reducible refine z0 ?_)|((first|((with_reducible refine NIf.decN ?s ?_);case s=>omega)|(with_reducible refine NN.a5 ?_)|((with_reducible refine NH.mk ?s ?_);case s=>(and_intros<;>first|with_reducible rfl|omega)))<;>(conv=>whnf))|(with_reducible first|refine z3 ?_|refine z4 ?_|refine z7 ?_|refine z8 ?_)|((with_reducible refine z29 ?_);intro A B hA hB;(conv=>whnf))|(with_reducible first|refine z1 ?_|refine z2 ?_|refine z10 ?_|refine z11 ?_|refine z19 ?_)|((with_reducible refine gR ?_);(refine z31 rfl ?_;intro K hK;(conv=>whnf)))))
              all_goals exact ⟨by rw [decide_eq_true heq],G,hle,MemFits.pre 1 rfl⟩
        · rw [show (decide (end_=0)||decide (way.length≤sws.length))=false by simpa using h2,Bool.false_and]
          (repeat' (first|(with_reducible first|(refine hK _ _ ?_;clear hK K)|(refine hA ?_;clear hA hB A B)|(refine hK _ ?_;clear hK K))|((with_reducible first|refine z25 ?_|refine z26 ?_);intro K hK;(conv=>whnf))|(with_reducible refine z0 ?_)|((first|with_reducible refine NIf.not_ ?_|((with_reducible refine NIf.decY ?s ?_);case s=>assumption)|((with_reducible refine NIf.decN ?s ?_);case s=>omega)|(with_reducible refine NN.a5 ?_)|((with_reducible refine NH.mk ?s ?_);case s=>(and_intros<;>first|with_reducible rfl|omega)))<;>(conv=>whnf))|(with_reducible first|refine z3 ?_|refine z4 ?_|refine z8 ?_)|((with_reducible refine z29 ?_);intro A B hA hB;(conv=>whnf))|(with_reducible first|refine z1 ?_|refine z2 ?_|refine z12 ?_)|((with_reducible refine gR ?_);(refine z31 rfl ?_;intro K hK;(conv=>whnf)))))
          all_goals first | (exfalso;omega) | exact ⟨rfl,G,hle,MemFits.pre 1 rfl⟩ | (exfalso;apply h2;omega)
      · rw [show (decide (e=0)&&decide (sws.length≤way.length))=false by
          cases hb:(decide (e=0)&&decide (sws.length≤way.length)) with
          | false=>rfl
          | true=>exact (h1 (by simpa using hb)).elim,Bool.false_and]
        (repeat' (first|(with_reducible first|(refine hK _ _ ?_;clear hK K)|(refine hA ?_;clear hA hB A B)|(refine hK _ ?_;clear hK K))|((with_reducible first|refine z25 ?_|refine z26 ?_);intro K hK;(conv=>whnf))|(with_reducible refine z0 ?_)|((first|with_reducible refine NIf.not_ ?_|((with_reducible refine NIf.decY ?s ?_);case s=>first|assumption|omega)|((with_reducible refine NIf.decN ?s ?_);case s=>assumption)|((with_reducible refine NIf.yes ?s ?_);case s=>rfl)|(with_reducible first|refine NIf.dec (fun _=>?_) (fun _=>?_)|refine NN.a5 ?_)|((with_reducible refine NH.mk ?s ?_);case s=>(and_intros<;>first|with_reducible rfl|omega)))<;>(conv=>whnf))|(with_reducible first|refine z3 ?_|refine z4 ?_|refine z8 ?_)|((with_reducible refine z29 ?_);intro A B hA hB;(conv=>whnf))|(with_reducible first|refine z1 ?_|refine z2 ?_|refine z12 ?_)|((with_reducible refine gR ?_);(refine z31 rfl ?_;intro K hK;(conv=>whnf)))))
        all_goals first | (exfalso;omega) | exact ⟨rfl,G,hle,MemFits.pre 1 rfl⟩ | (exfalso;apply h1;constructor<;>omega)
    · rw [Au.walked_out hsws hk]
      obtain ⟨id,fr,to,at_,sws,end_,host,last⟩:=c
      unfold Tc.cs
      dsimp only at *
      refine ncall_of Try.func35 rfl (by decide) ?_
      (repeat' (first|(with_reducible first|(refine hK _ _ ?_;clear hK K)|(refine hA ?_;clear hA hB A B)|(refine hB ?_;clear hA hB A B)|(refine hK _ ?_;clear hK K))|((with_reducible first|refine z25 ?_|refine z26 ?_);intro K hK;(conv=>whnf))|(with_reducible refine z0 ?_)|((first|((with_reducible refine NIf.decY ?s ?_);case s=>first|assumption|omega)|((with_reducible refine NIf.decN ?s ?_);case s=>first|assumption|omega)|((with_reducible refine NIf.yes ?s ?_);case s=>rfl)|(with_reducible first|refine NIf.dec (fun _=>?_) (fun _=>?_)|refine NN.a5 ?_)|((with_reducible refine NH.mk ?s ?_);case s=>(and_intros<;>first|with_reducible rfl|omega)))<;>(conv=>whnf))|(with_reducible first|refine z3 ?_|refine z4 ?_|refine z6 ?_|refine z8 ?_)|((with_reducible refine z29 ?_);intro A B hA hB;(conv=>whnf))|(with_reducible first|refine z1 ?_|refine z2 ?_|refine z12 ?_)|((with_reducible refine gR ?_);(refine z31 rfl ?_;intro K hK;(conv=>whnf)))|((with_reducible refine gF ?_);(refine z33 rfl ?_;intro K hK;(conv=>whnf)))|((intro _;skip)<;>(conv=>whnf))))
      all_goals first | (exfalso;omega) | exact ⟨rfl,F,F.le_refl,MemFits.pre 1 rfl⟩
end Go.Proofs.Ytijkmhmgigaieaa
