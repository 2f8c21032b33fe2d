import Derived.Test.YtijkmhmgigaieaaAu3
namespace Go.Proofs.Ytijkmhmgigaieaa
open Go.Sx
set_option maxRecDepth 20000
set_option linter.unusedSimpArgs false
set_option linter.unusedVariables false
set_option maxHeartbeats 4000000
set_option linter.unusedVariables false
set_option linter.unnecessarySimpa false
namespace Au
theorem endOf_nil (l:List Tc.E) (u y:Int):endOf (l.drop l.length) u y=1125899906842624:=by
  rw [List.drop_length]
  rfl
theorem endOf_at {l:List Tc.E} {k:Nat} {x:Tc.E} (hx:l[k]?=some x) (u y:Int):endOf (l.drop k) u y=if ends u x=true then (if x.kind=9 then y else x.real) else endOf (l.drop (k+1)) u y:=by
  obtain ⟨hk,rfl⟩:=List.getElem?_eq_some_iff.1 hx
  rw [List.drop_eq_getElem_cons hk]
  generalize l[k]=x
  generalize l.drop (k+1)=r
  unfold endOf
  rw [List.find?_cons]
  cases h:ends u x<;>rfl
end Au
theorem refguards42_c (F:Heap) (v:Value) (l:List Tc.E) (hv:Tc.ERow F v l) (hl:l.length≤1000):NCall Try.prog 16 [.hs v l.length] [hpB F] fun r m=>Au.GLays F (Au.guards l) r m:=by
  refine Au.guards_know (t:=53) ?_
  have hok:=hv.ok
  refine ncall_of Try.func16 rfl (by decide) ?_
  (repeat' (first|(with_reducible first|(refine hK _ _ ?_;clear hK K)|(refine hK _ ?_;clear hK K))|((with_reducible refine z25 ?_);intro K hK;(conv=>whnf))|(with_reducible first|refine z0 ?_|refine z3 ?_|refine z4 ?_|refine z5 ?_|refine z1 ?_|refine z2 ?_)|((with_reducible refine gF ?_);(refine z33 rfl ?_;intro K hK;(conv=>whnf)))))
  refine st_auto (α:=Value × Nat) (fun (w,i)=>i≤l.length) (fun (w,i)=>[.keep,.keep,.keep,.set (.sl 1 w (Au.gTo l i).length),.set (.int .i64 i),.drop,.drop,.drop,.drop,.drop,.drop,.drop,.drop,.drop,.drop,.drop,.drop,.drop,.drop,.drop,.drop,.drop,.drop,.drop,.drop,.drop,.drop,.drop,.drop,.drop,.drop,.drop,.drop,.drop,.drop,.drop,.drop,.drop,.drop,.drop,.drop,.drop,.drop,.drop,.drop,.drop,.drop,.drop,.drop,.drop,.drop,.drop,.drop,.drop,.drop,.drop,.drop,.drop,.drop,.drop,.drop,.drop,.drop,.drop,.drop,.drop,.drop,.drop,.drop,.drop,.drop,.drop,.drop,.drop,.drop,.drop,.drop,.drop,.drop,.drop,.drop,.drop,.drop,.drop,.drop,.drop,.keep])
    (fun (w,i)=>[.keep,.set ⟨addrOf w,Au.gC (Au.gTo l i),.row w 53 3 (Au.gTo l i).length⟩]) (fun (w,i)=>l.length - i) (.slice none 0 0,0) (Nat.zero_le _) ?_ (MemFits.nilRow _ 53 3) ?_
  · repeat (first|exact FitsSl.nil|refine FitsSl.any ?_|refine FitsSl.cons (Fit1.int (by first | rfl | omega)) ?_|refine FitsSl.cons (Fit1.same (by intro h;cases h) (by with_reducible rfl)) ?_|refine FitsSl.cons Fit1.nil_sl ?_)
  (intro ⟨w,i⟩ hi;intro K hK;(conv=>whnf);refine hK _ _ ?_;clear hK K)
  dsimp only at hi ⊢
  have hgl:=Au.gTo_len l i
  have hones:=Au.ones_gC (Au.gTo l i)
  by_cases hlt:i<l.length
  · have hx:l[i]?=some l[i]:=List.getElem?_eq_getElem hlt
    obtain ⟨c0,c1,c2,c3,c4,c5⟩:=hv.get hx
    have hnx:=Au.gTo_next l i
    have hga:Au.gAt l i=if l[i].kind=8 then [⟨l[i].u,l[i].x,Au.endOf (l.drop (i+1)) l[i].u l[i].y⟩] else []:=by unfold Au.gAt;rw [hx]
    have hen:=Au.endOf_nil l l[i].u l[i].y
    have hea:=fun k z (h:l[k]?=some z)=>Au.endOf_at h l[i].u l[i].y
    generalize l[i]=x at *
    by_cases hk:x.kind=8
    · rw [if_pos hk] at hga
      rw [hga] at hnx
      have hn2:=Au.gC_next (Au.gTo l i) ⟨x.u,x.x,Au.endOf (l.drop (i+1)) x.u x.y⟩
      have hnl:(Au.gTo l (i+1)).length=(Au.gTo l i).length+1:=by rw [hnx];simp
      rw [← hnx] at hn2
      generalize hEe:(fun k=>Au.endOf (l.drop k) x.u x.y)=en at *
      replace hEe:∀ k,Au.endOf (l.drop k) x.u x.y=en k:=fun k=>by rw [← hEe]
      simp only [hEe] at *
      (repeat' (first|(with_reducible first|(refine hK _ _ ?_;clear hK K)|(refine hA ?_;clear hA hB A B)|(refine hB ?_;clear hA hB A B)|(refine hK _ ?_;clear hK K))|((with_reducible refine z25 ?_);intro K hK;(conv=>whnf))|(with_reducible refine z0 ?_)|((first|((with_reducible refine NV.i64 ?s ?_);case s=>omega)|with_reducible refine NIf.not_ ?_|((with_reducible refine NIf.decY ?s ?_);case s=>first|assumption|omega)|(with_reducible first|refine NN.cast ?_|refine NN.a6 ?_|refine NN.keep ?_)|((with_reducible refine NH.mk ?s ?_);case s=>(and_intros<;>first|with_reducible rfl|((with_reducible refine gOnes ?_);rfl)|((with_reducible refine gLen ?_);rfl)|((with_reducible refine gKept ?_);exact rfl)|omega))|(with_reducible refine NLd.of (by with_reducible assumption) ?_))<;>(conv=>whnf))|(with_reducible refine st_ordSout ?_)|((with_reducible refine gNOK ?_);(first|(refine st_ordK1 rfl (by kernel_rfl) rfl ?_;intro K hK;(conv=>whnf))|refine st_ordK0 rfl (by kernel_rfl) ?_|refine st_ordKA rfl rfl (by kernel_rfl) (by intro h;cases h) ?_))|((with_reducible refine gNEK ?_);(first|(refine st_eachK ?_ ?_;(intro K hK;(conv=>whnf)))|exact st_eachK0))|((with_reducible refine gX ?_);(first|refine st_orderS [1,2] rfl rfl (by kernel_rfl) _ rfl ?_|(with_reducible first|refine z3 ?_|refine z4 ?_|refine z5 ?_|refine z6 ?_)|((with_reducible refine z29 ?_);intro A B hA hB;(conv=>whnf))))|(with_reducible first|refine z1 ?_|refine z2 ?_)|((intro _;skip)<;>(conv=>whnf))))
      rename_i b
      refine st_auto (α:=Nat) (fun j=>j+i+1≤l.length) (fun j=>[.keep,.keep,.keep,.keep,.keep,.keep,.set (.int .i64 ((i+j:Nat):Int)),.keep,.keep,.keep,.keep,.keep,.keep,.keep,.keep,.keep,.keep,.keep,.keep,.keep,.keep,.keep,.keep,.keep,.keep,.keep,.keep,.keep,.keep,.keep,.keep,.keep,.keep,.drop,.drop,.drop,.drop,.drop,.drop,.drop,.drop,.drop,.drop,.drop,.drop,.drop,.drop,.drop,.drop,.drop,.drop,.drop,.drop,.drop,.drop,.drop,.drop,.drop,.drop,.drop,.drop,.drop,.drop,.drop,.drop,.drop,.drop,.drop,.drop,.drop,.drop,.drop,.drop,.drop,.drop,.drop,.drop,.drop,.drop,.drop,.drop,.drop,.keep,.keep,.keep,.keep,.keep])
        (fun j=>[.keep,.keep,.set ⟨⟨b,0,none⟩,[.int .i64 x.u,.int .i64 x.x,.int .i64 (en (i+j+1))],.var 53⟩]) (fun j=>j) (l.length - 1 - i) (by omega) ?_ ?_ ?_
      · repeat (first|exact FitsSl.nil|refine FitsSl.any ?_|refine FitsSl.cons (Fit1.int (by first | rfl | omega)) ?_|refine FitsSl.cons (Fit1.bool rfl) ?_|refine FitsSl.cons (Fit1.same (by intro h;cases h) (by with_reducible rfl)) ?_)
      · rw [show i+(l.length - 1 - i)+1=l.length by omega,hen]
        exact MemFits.eq rfl
      (intro j hj;intro K hK;(conv=>whnf);refine hK _ _ ?_;clear hK K)
      dsimp only at hj ⊢
      cases j with
      | zero =>
        (repeat' (first|(with_reducible first|(refine hK _ _ ?_;clear hK K)|(refine hB ?_;clear hA hB A B))|((with_reducible refine z25 ?_);intro K hK;(conv=>whnf))|(with_reducible refine z0 ?_)|((first|((with_reducible refine NV.i64 ?s ?_);case s=>omega)|((with_reducible refine NIf.decN ?s ?_);case s=>omega)|((with_reducible refine NH.mk ?s ?_);case s=>(and_intros<;>first|with_reducible rfl|((with_reducible refine gOnes ?_);rfl)|((with_reducible refine gLen ?_);rfl)|omega)))<;>(conv=>whnf))|(with_reducible first|refine z3 ?_|refine z4 ?_|refine z7 ?_)|((with_reducible refine z29 ?_);intro A B hA hB;(conv=>whnf))|(with_reducible first|refine z1 ?_|refine z2 ?_|refine z9 ?_|refine z10 ?_|refine z11 ?_|refine z19 ?_)|((intro _;skip)<;>(conv=>whnf))))
        all_goals
          rename_i w2
          refine st_round (w2,i+1) hlt (by show l.length - (i+1)<l.length - i;omega) ?_ ?_
          · repeat (first|exact FitsSl.nil|refine FitsSl.any ?_|refine FitsSl.cons (Fit1.int (by first | rfl | omega)) ?_|refine FitsSl.cons (Fit1.same (by intro h;cases h) (by with_reducible rfl)) ?_|refine FitsSl.cons (Fit1.sl rfl) ?_)
          · show MemFits _ [hpB F,⟨addrOf w2,Au.gC (Au.gTo l (i+1)),.row w2 53 3 (Au.gTo l (i+1)).length⟩]
            rw [hn2,hnl]
            exact MemFits.pre 2 rfl
      | succ j =>
        have hy:l[i+(j+1)]?=some (l[i+(j+1)]'(by omega)):=List.getElem?_eq_getElem (by omega)
        obtain ⟨d0,d1,d2,d3,d4,d5⟩:=hv.get hy
        have hn3:=hea _ _ hy
        generalize l[i+(j+1)]'(by omega)=y at *
        unfold Au.ends at hn3
        generalize en (i+(j+1)+1)=e0 at *
        have hnn:i+j+1=i+(j+1):=by omega
        by_cases hu:y.u=x.u
        · by_cases h9:y.kind=9
          · have hn4:en (i+j+1)=x.y:=by rw [hnn,hn3];simp [hu,h9]
            (repeat' (first|(with_reducible first|(refine hK _ _ ?_;clear hK K)|(refine hA ?_;clear hA hB A B)|(refine hB ?_;clear hA hB A B)|(refine hK _ ?_;clear hK K))|((with_reducible refine z25 ?_);intro K hK;(conv=>whnf))|(with_reducible refine z0 ?_)|((first|((with_reducible refine NV.i64 ?s ?_);case s=>omega)|((with_reducible refine NIf.yes ?s ?_);case s=>(simp [hu,h9];done))|((with_reducible refine NIf.no ?s ?_);case s=>(simp [hu,h9];done))|((with_reducible refine NIf.decY ?s ?_);case s=>omega)|(with_reducible first|refine NN.cast ?_|refine NN.a5 ?_|refine NN.a6 ?_|refine NN.keep ?_)|((with_reducible refine NH.mk ?s ?_);case s=>(and_intros<;>first|with_reducible rfl|((with_reducible refine gOnes ?_);rfl)|((with_reducible refine gLen ?_);rfl)|((with_reducible refine gKept ?_);exact rfl)|omega))|(with_reducible refine NLd.of (by with_reducible assumption) ?_))<;>(conv=>whnf))|(with_reducible refine st_ordSout ?_)|((with_reducible refine gNOK ?_);(first|(refine st_ordK1 rfl (by kernel_rfl) rfl ?_;intro K hK;(conv=>whnf))|(refine st_ordK1g rfl (by kernel_rfl) rfl ?_;intro K hK;(conv=>whnf))|refine st_ordK0 rfl (by kernel_rfl) ?_|refine st_ordKA rfl rfl (by kernel_rfl) (by intro h;cases h) ?_))|((with_reducible refine gNEK ?_);(first|(refine st_eachK ?_ ?_;(intro K hK;(conv=>whnf)))|exact st_eachK0))|((with_reducible refine gX ?_);(first|refine st_orderS [2] rfl rfl (by kernel_rfl) _ rfl ?_|(with_reducible first|refine z3 ?_|refine z4 ?_|refine z5 ?_|refine z6 ?_)|((with_reducible refine z29 ?_);intro A B hA hB;(conv=>whnf))))|(with_reducible first|refine z1 ?_|refine z2 ?_|refine z9 ?_)))
            all_goals refine st_round j (by omega) (by omega) ?_ ?_
            all_goals first | exact (by rw [hn4];exact MemFits.eq rfl) | skip
            all_goals repeat (first|exact FitsSl.nil|refine FitsSl.any ?_|refine FitsSl.cons (Fit1.int (by first | rfl | omega)) ?_|refine FitsSl.cons (Fit1.bool rfl) ?_|refine FitsSl.cons (Fit1.same (by intro h;cases h) (by with_reducible rfl)) ?_)
          · by_cases h10:y.kind=10
            · have hn4:en (i+j+1)=y.real:=by rw [hnn,hn3];simp [hu,h10]
              (repeat' (first|(with_reducible first|(refine hK _ _ ?_;clear hK K)|(refine hA ?_;clear hA hB A B)|(refine hB ?_;clear hA hB A B)|(refine hK _ ?_;clear hK K))|((with_reducible refine z25 ?_);intro K hK;(conv=>whnf))|(with_reducible refine z0 ?_)|((first|((with_reducible refine NV.i64 ?s ?_);case s=>omega)|((with_reducible refine NIf.yes ?s ?_);case s=>(simp [hu,h9,h10];done))|((with_reducible refine NIf.no ?s ?_);case s=>(simp [hu,h9,h10];done))|((with_reducible refine NIf.decY ?s ?_);case s=>omega)|(with_reducible first|refine NN.cast ?_|refine NN.a5 ?_|refine NN.a6 ?_|refine NN.keep ?_)|((with_reducible refine NH.mk ?s ?_);case s=>(and_intros<;>first|with_reducible rfl|((with_reducible refine gOnes ?_);rfl)|((with_reducible refine gLen ?_);rfl)|((with_reducible refine gKept ?_);exact rfl)|omega))|(with_reducible refine NLd.of (by with_reducible assumption) ?_))<;>(conv=>whnf))|(with_reducible refine st_ordSout ?_)|((with_reducible refine gNOK ?_);(first|(refine st_ordK1 rfl (by kernel_rfl) rfl ?_;intro K hK;(conv=>whnf))|(refine st_ordK1g rfl (by kernel_rfl) rfl ?_;intro K hK;(conv=>whnf))|refine st_ordK0 rfl (by kernel_rfl) ?_|refine st_ordKA rfl rfl (by kernel_rfl) (by intro h;cases h) ?_))|((with_reducible refine gNEK ?_);(first|(refine st_eachK ?_ ?_;(intro K hK;(conv=>whnf)))|exact st_eachK0))|((with_reducible refine gX ?_);(first|refine st_orderS [2] rfl rfl (by kernel_rfl) _ rfl ?_|(with_reducible first|refine z3 ?_|refine z4 ?_|refine z5 ?_|refine z6 ?_)|((with_reducible refine z29 ?_);intro A B hA hB;(conv=>whnf))))|(with_reducible first|refine z1 ?_|refine z2 ?_|refine z9 ?_)))
              all_goals refine st_round j (by omega) (by omega) ?_ ?_
              all_goals first | exact (by rw [hn4];exact MemFits.eq rfl) | skip
              all_goals repeat (first|exact FitsSl.nil|refine FitsSl.any ?_|refine FitsSl.cons (Fit1.int (by first | rfl | omega)) ?_|refine FitsSl.cons (Fit1.bool rfl) ?_|refine FitsSl.cons (Fit1.same (by intro h;cases h) (by with_reducible rfl)) ?_)
            · have hn4:en (i+j+1)=e0:=by rw [hnn,hn3];simp [h9,h10]
              (repeat' (first|(with_reducible first|(refine hK _ _ ?_;clear hK K)|(refine hA ?_;clear hA hB A B)|(refine hB ?_;clear hA hB A B)|(refine hK _ ?_;clear hK K))|((with_reducible refine z25 ?_);intro K hK;(conv=>whnf))|(with_reducible refine z0 ?_)|((first|((with_reducible refine NV.i64 ?s ?_);case s=>omega)|((with_reducible refine NIf.yes ?s ?_);case s=>(simp [hu,h9,h10];done))|((with_reducible refine NIf.no ?s ?_);case s=>(simp [hu,h9,h10];done))|((with_reducible refine NIf.decY ?s ?_);case s=>omega)|(with_reducible first|refine NN.cast ?_|refine NN.a5 ?_|refine NN.a6 ?_|refine NN.keep ?_)|((with_reducible refine NH.mk ?s ?_);case s=>(and_intros<;>first|with_reducible rfl|((with_reducible refine gKept ?_);exact rfl)|omega))|(with_reducible refine NLd.of (by with_reducible assumption) ?_))<;>(conv=>whnf))|(with_reducible refine st_ordSout ?_)|((with_reducible refine gNOK ?_);(first|(refine st_ordK1 rfl (by kernel_rfl) rfl ?_;intro K hK;(conv=>whnf))|(refine st_ordK1g rfl (by kernel_rfl) rfl ?_;intro K hK;(conv=>whnf))|refine st_ordK0 rfl (by kernel_rfl) ?_|refine st_ordKA rfl rfl (by kernel_rfl) (by intro h;cases h) ?_))|((with_reducible refine gNEK ?_);(first|(refine st_eachK ?_ ?_;(intro K hK;(conv=>whnf)))|exact st_eachK0))|((with_reducible refine gX ?_);(first|refine st_orderS [2] rfl rfl (by kernel_rfl) _ rfl ?_|(with_reducible first|refine z3 ?_|refine z4 ?_|refine z5 ?_|refine z6 ?_)|((with_reducible refine z29 ?_);intro A B hA hB;(conv=>whnf))))|(with_reducible first|refine z1 ?_|refine z2 ?_|refine z9 ?_)))
              all_goals refine st_round j (by omega) (by omega) ?_ ?_
              all_goals first | exact (by rw [hn4];exact MemFits.eq rfl) | skip
              all_goals repeat (first|exact FitsSl.nil|refine FitsSl.any ?_|refine FitsSl.cons (Fit1.int (by first | rfl | omega)) ?_|refine FitsSl.cons (Fit1.bool rfl) ?_|refine FitsSl.cons (Fit1.same (by intro h;cases h) (by with_reducible rfl)) ?_)
        · have hn4:en (i+j+1)=e0:=by rw [hnn,hn3];simp [hu]
          (repeat' (first|(with_reducible first|(refine hK _ _ ?_;clear hK K)|(refine hA ?_;clear hA hB A B)|(refine hB ?_;clear hA hB A B)|(refine hK _ ?_;clear hK K))|((with_reducible refine z25 ?_);intro K hK;(conv=>whnf))|(with_reducible refine z0 ?_)|((first|((with_reducible refine NV.i64 ?s ?_);case s=>omega)|((with_reducible refine NIf.no ?s ?_);case s=>(simp [hu];done))|((with_reducible refine NIf.decY ?s ?_);case s=>omega)|(with_reducible first|refine NN.cast ?_|refine NN.a5 ?_|refine NN.a6 ?_|refine NN.keep ?_)|((with_reducible refine NH.mk ?s ?_);case s=>(and_intros<;>first|with_reducible rfl|((with_reducible refine gKept ?_);exact rfl)|omega))|(with_reducible refine NLd.of (by with_reducible assumption) ?_))<;>(conv=>whnf))|(with_reducible refine st_ordSout ?_)|((with_reducible refine gNOK ?_);(first|(refine st_ordK1 rfl (by kernel_rfl) rfl ?_;intro K hK;(conv=>whnf))|(refine st_ordK1g rfl (by kernel_rfl) rfl ?_;intro K hK;(conv=>whnf))|refine st_ordK0 rfl (by kernel_rfl) ?_|refine st_ordKA rfl rfl (by kernel_rfl) (by intro h;cases h) ?_))|((with_reducible refine gNEK ?_);(first|(refine st_eachK ?_ ?_;(intro K hK;(conv=>whnf)))|exact st_eachK0))|((with_reducible refine gX ?_);(first|refine st_orderS [2] rfl rfl (by kernel_rfl) _ rfl ?_|(with_reducible first|refine z3 ?_|refine z4 ?_|refine z5 ?_|refine z6 ?_)|((with_reducible refine z29 ?_);intro A B hA hB;(conv=>whnf))))|(with_reducible first|refine z1 ?_|refine z2 ?_|refine z9 ?_)))
          all_goals refine st_round j (by omega) (by omega) ?_ ?_
          all_goals first | exact (by rw [hn4];exact MemFits.eq rfl) | skip
          all_goals repeat (first|exact FitsSl.nil|refine FitsSl.any ?_|refine FitsSl.cons (Fit1.int (by first | rfl | omega)) ?_|refine FitsSl.cons (Fit1.bool rfl) ?_|refine FitsSl.cons (Fit1.same (by intro h;cases h) (by with_reducible rfl)) ?_)
    · rw [if_neg hk] at hga
      rw [hga,List.append_nil] at hnx
      (repeat' (first|(with_reducible first|(refine hK _ _ ?_;clear hK K)|(refine hA ?_;clear hA hB A B))|((with_reducible refine z25 ?_);intro K hK;(conv=>whnf))|(with_reducible refine z0 ?_)|((first|((with_reducible refine NV.i64 ?s ?_);case s=>omega)|((with_reducible refine NIf.yes ?s ?_);case s=>simpa using hk)|((with_reducible refine NIf.decY ?s ?_);case s=>omega)|(with_reducible first|refine NN.cast ?_|refine NN.a6 ?_|refine NN.keep ?_)|((with_reducible refine NH.mk ?s ?_);case s=>(and_intros<;>omega))|(with_reducible refine NLd.of (by with_reducible assumption) ?_))<;>(conv=>whnf))|(with_reducible first|refine z3 ?_|refine z4 ?_|refine z5 ?_|refine z6 ?_|refine z7 ?_)|((with_reducible refine z29 ?_);intro A B hA hB;(conv=>whnf))|(with_reducible first|refine z1 ?_|refine z2 ?_|refine z10 ?_|refine z11 ?_)))
      refine st_round (w,i+1) hlt (by show l.length - (i+1)<l.length - i;omega) ?_ ?_
      · repeat (first|exact FitsSl.nil|refine FitsSl.any ?_|refine FitsSl.cons (Fit1.int (by first | rfl | omega)) ?_|refine FitsSl.cons (Fit1.same (by intro h;cases h) (by with_reducible rfl)) ?_|refine FitsSl.cons (Fit1.sl rfl) ?_)
      · show MemFits _ [hpB F,⟨addrOf w,Au.gC (Au.gTo l (i+1)),.row w 53 3 (Au.gTo l (i+1)).length⟩]
        rw [hnx]
        exact MemFits.pre 2 rfl
  · have hii:i=l.length:=by omega
    subst hii
    (repeat' (first|(with_reducible first|(refine hK _ _ ?_;clear hK K)|(refine hB ?_;clear hA hB A B)|(refine hK _ ?_;clear hK K))|((with_reducible refine z25 ?_);intro K hK;(conv=>whnf))|(with_reducible refine z0 ?_)|((first|((with_reducible refine NIf.decN ?s ?_);case s=>omega)|((with_reducible refine NH.mk ?s ?_);case s=>(and_intros<;>omega)))<;>(conv=>whnf))|(with_reducible first|refine z3 ?_|refine z4 ?_|refine z7 ?_|refine z8 ?_)|((with_reducible refine z29 ?_);intro A B hA hB;(conv=>whnf))|(with_reducible first|refine z1 ?_|refine z2 ?_|refine z10 ?_|refine z11 ?_|refine z19 ?_)|((with_reducible refine gR ?_);(refine z31 rfl ?_;intro K hK;(conv=>whnf)))))
    exact ⟨w,rfl,MemFits.eq rfl⟩
theorem refguarded42_c (F:Heap) (v:Value) (l:List Tc.E) (hv:Tc.ERow F v l) (hl:l.length≤1000) (at_:Int):NCall Try.prog 17 [.hs v l.length,.int .i64 at_] [hpB F] fun r m=>r = .bool (Au.guarded l at_)∧m=[hpB F]:=by
  refine NCall.fits (K:=fun r m=>r = .bool (Au.guarded l at_)∧∃ F',F.le F'∧MemFits m [hpB F']) ?_ fun r m' ⟨h1,F',h2,h3⟩=>⟨r,_,rfl,h3.trans (MemFits.less h2 []),h1,rfl⟩
  have cg:=refguards42_c F v l hv hl
  have hgl:=Au.gTo_len l l.length
  have hg0:(Au.guards l).length≤1000:=by unfold Au.guards;omega
  unfold Au.guarded
  generalize Au.guards l=gs at *
  refine ncall_of Try.func17 rfl (by decide) ?_
  (repeat' (first|(with_reducible first|(refine hK _ _ ?_;clear hK K)|(refine hK _ ?_;clear hK K))|((with_reducible refine z25 ?_);intro K hK;(conv=>whnf))|(with_reducible refine z0 ?_)|(((with_reducible refine NCall.isF 16 ?_);refine NCall.subw [0] _ _ (cg) rfl (by decide) rfl ?_;rintro _ _ ⟨G,w,hle,hw,rfl,rfl⟩;refine ⟨Nat.le_of_ble_eq_true rfl,_,rfl,?_⟩)<;>(conv=>whnf))|(with_reducible first|refine z3 ?_|refine z4 ?_|refine z5 ?_|refine z1 ?_|refine z2 ?_)|((with_reducible refine gF ?_);(refine z33 rfl ?_;intro K hK;(conv=>whnf)))))
  have hok:=hw.ok
  refine st_auto (α:=Nat) (fun i=>i≤gs.length∧(gs.take i).any (Au.inG at_)=false) (fun i=>[.keep,.keep,.keep,.keep,.set (.bool false),.keep,.set (.int .i64 i),.keep,.keep,.drop,.drop,.drop,.drop,.drop,.drop,.drop,.drop,.drop,.drop,.drop,.drop,.drop,.drop,.drop,.drop,.drop,.drop,.drop,.drop,.drop,.drop]) (fun _=>[.keep]) (fun i=>gs.length - i) 0 ⟨Nat.zero_le _,rfl⟩ ?_ (MemFits.eq rfl) ?_
  · repeat (first|exact FitsSl.nil|refine FitsSl.any ?_|refine FitsSl.cons (Fit1.int (by first | rfl | omega)) ?_|refine FitsSl.cons (Fit1.bool rfl) ?_|refine FitsSl.cons (Fit1.same (by intro h;cases h) (by with_reducible rfl)) ?_)
  (intro i ⟨hi,hno⟩;intro K hK;(conv=>whnf);refine hK _ _ ?_;clear hK K)
  by_cases hlt:i<gs.length
  · have hx:gs[i]?=some gs[i]:=List.getElem?_eq_getElem hlt
    obtain ⟨c0,c1,c2⟩:=hw.get hx
    have hnx:(gs.take (i+1)).any (Au.inG at_)=Au.inG at_ gs[i]:=by rw [List.take_add_one,hx,Option.toList_some,List.any_append,hno];simp
    have hyes:Au.inG at_ gs[i]=true→gs.any (Au.inG at_)=true:=fun h=>List.any_eq_true.2 ⟨_,List.getElem_mem hlt,h⟩
    generalize gs[i]=x at *
    have hin:Au.inG at_ x=(decide (x.f≤at_)&&decide (at_≤x.t)):=rfl
    rw [hin] at hnx hyes
    by_cases h1:x.f≤at_
    · by_cases h2:at_≤x.t
      · (repeat' (first|(with_reducible first|(refine hK _ _ ?_;clear hK K)|(refine hA ?_;clear hA hB A B)|(refine hK _ ?_;clear hK K))|((with_reducible first|refine z25 ?_|refine z26 ?_);intro K hK;(conv=>whnf))|(with_reducible refine z0 ?_)|((first|((with_reducible refine NIf.yes ?s ?_);case s=>(simp [h1,h2];done))|((with_reducible refine NIf.decY ?s ?_);case s=>omega)|(with_reducible first|refine NN.cast ?_|refine NN.a6 ?_|refine NN.keep ?_)|((with_reducible refine NH.mk ?s ?_);case s=>(and_intros<;>omega))|(with_reducible refine NLd.of (by with_reducible assumption) ?_))<;>(conv=>whnf))|(with_reducible first|refine z3 ?_|refine z4 ?_|refine z5 ?_|refine z6 ?_|refine z8 ?_)|((with_reducible refine z29 ?_);intro A B hA hB;(conv=>whnf))|(with_reducible first|refine z1 ?_|refine z2 ?_|refine z12 ?_|refine z13 ?_|refine z20 ?_)|((with_reducible refine gR ?_);(refine z31 rfl ?_;intro K hK;(conv=>whnf)))))
        all_goals first
          | exact ⟨by rw [hyes (by rw [decide_eq_true h1,decide_eq_true h2];rfl)],G,hle,MemFits.pre 1 rfl⟩
          | (exfalso;omega)
      · (repeat' (first|(with_reducible first|(refine hK _ _ ?_;clear hK K)|(refine hA ?_;clear hA hB A B)|(refine hB ?_;clear hA hB A B))|((with_reducible first|refine z25 ?_|refine z26 ?_);intro K hK;(conv=>whnf))|(with_reducible refine z0 ?_)|((first|((with_reducible refine NV.i64 ?s ?_);case s=>omega)|((with_reducible refine NIf.yes ?s ?_);case s=>(simp [h1,h2];done))|((with_reducible refine NIf.no ?s ?_);case s=>(simp [h1,h2];done))|((with_reducible refine NIf.decY ?s ?_);case s=>omega)|(with_reducible first|refine NN.cast ?_|refine NN.a6 ?_|refine NN.keep ?_)|((with_reducible refine NH.mk ?s ?_);case s=>(and_intros<;>omega))|(with_reducible refine NLd.of (by with_reducible assumption) ?_))<;>(conv=>whnf))|(with_reducible first|refine z3 ?_|refine z4 ?_|refine z5 ?_|refine z6 ?_)|((with_reducible refine z29 ?_);intro A B hA hB;(conv=>whnf))|(with_reducible first|refine z1 ?_|refine z2 ?_|refine z9 ?_)))
        all_goals first
          | (exfalso;omega)
          | (refine st_round (i+1) ⟨hlt,by rw [hnx,decide_eq_false h2,Bool.and_false]⟩ (by omega) ?_ (MemFits.eq rfl))
        all_goals repeat (first|exact FitsSl.nil|refine FitsSl.any ?_|refine FitsSl.cons (Fit1.int (by first | rfl | omega)) ?_|refine FitsSl.cons (Fit1.bool rfl) ?_|refine FitsSl.cons (Fit1.same (by intro h;cases h) (by with_reducible rfl)) ?_)
    · (repeat' (first|(with_reducible first|(refine hK _ _ ?_;clear hK K)|(refine hA ?_;clear hA hB A B)|(refine hB ?_;clear hA hB A B))|((with_reducible first|refine z25 ?_|refine z26 ?_);intro K hK;(conv=>whnf))|(with_reducible refine z0 ?_)|((first|((with_reducible refine NV.i64 ?s ?_);case s=>omega)|((with_reducible refine NIf.no ?s ?_);case s=>(simp [h1];done))|((with_reducible refine NIf.decY ?s ?_);case s=>omega)|(with_reducible first|refine NN.cast ?_|refine NN.a6 ?_|refine NN.keep ?_)|((with_reducible refine NH.mk ?s ?_);case s=>(and_intros<;>omega))|(with_reducible refine NLd.of (by with_reducible assumption) ?_))<;>(conv=>whnf))|(with_reducible first|refine z3 ?_|refine z4 ?_|refine z5 ?_|refine z6 ?_)|((with_reducible refine z29 ?_);intro A B hA hB;(conv=>whnf))|(with_reducible first|refine z1 ?_|refine z2 ?_|refine z9 ?_)))
      all_goals first
        | (exfalso;omega)
        | (refine st_round (i+1) ⟨hlt,by rw [hnx,decide_eq_false h1,Bool.false_and]⟩ (by omega) ?_ (MemFits.eq rfl))
      all_goals repeat (first|exact FitsSl.nil|refine FitsSl.any ?_|refine FitsSl.cons (Fit1.int (by first | rfl | omega)) ?_|refine FitsSl.cons (Fit1.bool rfl) ?_|refine FitsSl.cons (Fit1.same (by intro h;cases h) (by with_reducible rfl)) ?_)
  · have hii:i=gs.length:=by omega
    rw [hii,List.take_length] at hno
    (repeat' (first|(with_reducible first|(refine hK _ _ ?_;clear hK K)|(refine hB ?_;clear hA hB A B)|(refine hK _ ?_;clear hK K))|((with_reducible refine z25 ?_);intro K hK;(conv=>whnf))|(with_reducible refine z0 ?_)|((first|((with_reducible refine NIf.decN ?s ?_);case s=>omega)|((with_reducible refine NH.mk ?s ?_);case s=>(and_intros<;>omega)))<;>(conv=>whnf))|(with_reducible first|refine z3 ?_|refine z4 ?_|refine z7 ?_|refine z8 ?_)|((with_reducible refine z29 ?_);intro A B hA hB;(conv=>whnf))|(with_reducible first|refine z1 ?_|refine z2 ?_|refine z10 ?_|refine z11 ?_|refine z19 ?_)|((with_reducible refine gR ?_);(refine z31 rfl ?_;intro K hK;(conv=>whnf)))))
    all_goals exact ⟨by rw [hno],G,hle,MemFits.pre 1 rfl⟩
theorem refinforce42_c (F:Heap) (v:Value) (l:List Tc.E) (hv:Tc.ERow F v l) (hl:l.length≤1000) (at_:Int):NCall Try.prog 18 [.hs v l.length,.int .i64 at_] [hpB F] fun r m=>r = .int .i64 (Au.inForce l at_)∧m=[hpB F]:=by
  refine NCall.fits (K:=fun r m=>r = .int .i64 (Au.inForce l at_)∧∃ F',F.le F'∧MemFits m [hpB F']) ?_ fun r m' ⟨h1,F',h2,h3⟩=>⟨r,_,rfl,h3.trans (MemFits.less h2 []),h1,rfl⟩
  have cg:=refguards42_c F v l hv hl
  have hgl:=Au.gTo_len l l.length
  have hg0:(Au.guards l).length≤1000:=by unfold Au.guards;omega
  unfold Au.inForce
  generalize Au.guards l=gs at *
  refine ncall_of Try.func18 rfl (by decide) ?_
  (repeat' (first|(with_reducible first|(refine hK _ _ ?_;clear hK K)|(refine hK _ ?_;clear hK K))|((with_reducible refine z25 ?_);intro K hK;(conv=>whnf))|(with_reducible refine z0 ?_)|(((with_reducible refine NCall.isF 16 ?_);refine NCall.subw [0] _ _ (cg) rfl (by decide) rfl ?_;rintro _ _ ⟨G,w,hle,hw,rfl,rfl⟩;refine ⟨Nat.le_of_ble_eq_true rfl,_,rfl,?_⟩)<;>(conv=>whnf))|(with_reducible first|refine z3 ?_|refine z4 ?_|refine z5 ?_|refine z1 ?_|refine z2 ?_)|((with_reducible refine gF ?_);(refine z33 rfl ?_;intro K hK;(conv=>whnf)))))
  have hv2:=Tc.erow_mono hle hv
  have hok:=hv2.ok
  have hok2:=hw.ok
  (repeat' (first|(with_reducible first|(refine hK _ _ ?_;clear hK K)|(refine hA ?_;clear hA hB A B)|(refine hB ?_;clear hA hB A B)|(refine hK _ ?_;clear hK K))|((with_reducible first|refine z25 ?_|refine z26 ?_);intro K hK;(conv=>whnf))|(with_reducible refine z0 ?_)|((with_reducible first|refine z27 ?_|refine z28 ?_);intro K hK;(conv=>whnf))|(with_reducible refine z24 ?_)|((first|((with_reducible first|refine NV.quo ?s ?_|refine NV.rem ?s ?_|refine NV.i64 ?s ?_|refine NV.u32 ?s ?_|refine NV.u8 ?s ?_|refine NV.u64 ?s ?_);case s=>omega)|(with_reducible first|refine NV.divk ?_|refine NV.modk ?_|refine NV.keep ?_|refine NIf.not_ ?_)|((with_reducible refine NIf.decY ?s ?_);case s=>first|with_reducible rfl|assumption|omega)|((with_reducible refine NIf.decN ?s ?_);case s=>first|with_reducible rfl|assumption|omega)|((with_reducible refine NIf.yes ?s ?_);case s=>first|rfl|assumption)|((with_reducible refine NIf.no ?s ?_);case s=>first|rfl|assumption)|(with_reducible first|refine NIf.dec (fun _=>?_) (fun _=>?_)|refine NIf.both (fun _=>?_) (fun _=>?_)|refine NN.lit ?_|refine NN.cast ?_|refine NN.a1 ?_|refine NN.a2 ?_|refine NN.a3 ?_|refine NN.a4 ?_|refine NN.a5 ?_|refine NN.a6 ?_|refine NN.keep ?_)|((with_reducible refine NH.mk ?s ?_);case s=>(and_intros<;>first|with_reducible rfl|((with_reducible refine gOnes ?_);rfl)|((with_reducible refine gLen ?_);rfl)|omega|assumption|exact Nat.le_of_ble_eq_true rfl|(simp only [List.length_append,List.length_cons,List.length_nil];omega)|rfl))|(with_reducible first|refine NS.keep ?_|refine NLd.of (by with_reducible assumption) ?_))<;>(conv=>whnf))|((with_reducible refine gX ?_);(first|(with_reducible first|refine z3 ?_|refine z4 ?_|refine z5 ?_|refine z6 ?_|refine z7 ?_|refine z8 ?_|refine z14 ?_|refine z15 ?_)|((with_reducible refine z29 ?_);intro A B hA hB;(conv=>whnf))|refine z34 (by kernel_rfl) (by kernel_rfl) ?_))|(with_reducible first|refine z1 ?_|refine z2 ?_|refine z9 ?_|refine z10 ?_|refine z11 ?_|refine z12 ?_|refine z13 ?_|refine z16 ?_|refine z17 ?_|refine z18 ?_|refine z19 ?_|refine z20 ?_|refine z21 ?_|refine z22 ?_|refine z23 ?_)|((with_reducible refine gB ?_);refine z30 (by decide) ?_)|((with_reducible refine gR ?_);((first|refine z31 rfl ?_|refine z32 rfl ?_);intro K hK;(conv=>whnf)))|((with_reducible refine gF ?_);(refine z33 rfl ?_;intro K hK;(conv=>whnf)))|((refine NFlat_iff.2 ⟨⟨?s1,?s2⟩,?_⟩;(case s1=>decide +kernel);(case s2=>decide +kernel))<;>(conv=>whnf))|((intro _;skip)<;>(conv=>whnf))))
  refine st_auto (α:=Nat) (fun i=>i≤l.length) (fun i=>[.keep,.keep,.keep,.keep,.keep,.keep,.set (.int .i64 ((l.take i).foldl (Au.fstep gs at_) 0)),.set (.int .i64 i),.drop,.keep,.keep,.drop,.drop,.drop,.drop,.drop,.drop,.drop,.drop,.drop,.drop,.drop,.drop,.drop,.drop,.drop,.drop,.drop,.drop,.drop,.drop,.drop,.drop,.drop,.drop,.drop,.drop,.drop,.drop,.drop,.drop,.drop,.drop,.drop,.drop,.drop,.drop,.drop,.drop,.drop,.drop,.drop,.drop,.drop,.drop,.drop,.keep]) (fun _=>[.keep,.keep]) (fun i=>l.length - i) 0 (Nat.zero_le _) ?_ (MemFits.eq rfl) ?_
  · repeat (first|exact FitsSl.nil|refine FitsSl.any ?_|refine FitsSl.cons (Fit1.int (by first | rfl | omega)) ?_|refine FitsSl.cons (Fit1.same (by intro h;cases h) (by with_reducible rfl)) ?_)
  (intro i hi;intro K hK;(conv=>whnf);refine hK _ _ ?_;clear hK K)
  by_cases hlt:i<l.length
  · have hx:l[i]?=some l[i]:=List.getElem?_eq_getElem hlt
    obtain ⟨c0,c1,c2,c3,c4,c5⟩:=hv2.get hx
    have hnx:(l.take (i+1)).foldl (Au.fstep gs at_) 0=Au.fstep gs at_ ((l.take i).foldl (Au.fstep gs at_) 0) l[i]:=by rw [List.take_add_one,hx,Option.toList_some,List.foldl_append];rfl
    generalize l[i]=x at *
    generalize (l.take i).foldl (Au.fstep gs at_) 0=o at *
    have hfs:∀ gs,Au.fstep gs at_ o x=if x.kind=9∧gs.any (Au.over at_ x.u)=true then x.x else o:=fun gs=>rfl
    (repeat' (first|(with_reducible first|(refine hK _ _ ?_;clear hK K)|(refine hA ?_;clear hA hB A B))|((with_reducible refine z25 ?_);intro K hK;(conv=>whnf))|(with_reducible refine z0 ?_)|((first|((with_reducible refine NIf.decY ?s ?_);case s=>omega)|((with_reducible refine NH.mk ?s ?_);case s=>(and_intros<;>omega)))<;>(conv=>whnf))|(with_reducible first|refine z3 ?_|refine z4 ?_|refine z5 ?_|refine z6 ?_)|((with_reducible refine z29 ?_);intro A B hA hB;(conv=>whnf))|(with_reducible first|refine z1 ?_|refine z2 ?_)))
    refine st_auto (α:=Nat) (fun k=>k≤gs.length) (fun k=>[.keep,.keep,.keep,.keep,.keep,.keep,.set (.int .i64 (Au.fstep (gs.take k) at_ o x)),.keep,.set (.int .i64 k),.keep,.keep,.keep,.keep,.keep,.keep,.keep,.keep,.drop,.drop,.drop,.drop,.drop,.drop,.drop,.drop,.drop,.drop,.drop,.drop,.drop,.drop,.drop,.drop,.drop,.drop,.drop,.drop,.drop,.drop,.drop,.drop,.drop,.drop,.drop,.drop,.drop,.drop,.drop,.drop,.drop,.drop,.drop,.drop,.drop,.drop,.drop,.keep]) (fun _=>[.keep,.keep]) (fun k=>gs.length - k) 0 (Nat.zero_le _) ?_ (MemFits.eq rfl) ?_
    · have h0:Au.fstep (gs.take 0) at_ o x=o:=by rw [hfs];simp
      rw [h0]
      repeat (first|exact FitsSl.nil|refine FitsSl.any ?_|refine FitsSl.cons (Fit1.int (by first | rfl | omega)) ?_|refine FitsSl.cons (Fit1.bool rfl) ?_|refine FitsSl.cons (Fit1.same (by intro h;cases h) (by with_reducible rfl)) ?_)
    (intro k hk;intro K hK;(conv=>whnf);refine hK _ _ ?_;clear hK K)
    by_cases hkl:k<gs.length
    · have hy:gs[k]?=some gs[k]:=List.getElem?_eq_getElem hkl
      obtain ⟨d0,d1,d2⟩:=hw.get hy
      have hst:Au.fstep (gs.take (k+1)) at_ o x=if x.kind=9∧Au.over at_ x.u gs[k]=true then x.x else Au.fstep (gs.take k) at_ o x:=by
        rw [hfs,hfs,List.take_add_one,hy,Option.toList_some,List.any_append]
        by_cases h1:x.kind=9
        · cases h2:(gs.take k).any (Au.over at_ x.u)<;>cases h3:Au.over at_ x.u gs[k]<;>simp [h1,h3]
        · simp [h1]
      generalize gs[k]=y at *
      generalize Au.fstep (gs.take k) at_ o x=p at *
      unfold Au.over at hst
      by_cases h1:x.kind=9
      · by_cases h2:y.u=x.u
        · by_cases h3:y.t<at_
          · rw [if_pos ⟨h1,by simp [h2,h3]⟩] at hst
            (repeat' (first|(with_reducible first|(refine hK _ _ ?_;clear hK K)|(refine hA ?_;clear hA hB A B)|(refine hK _ ?_;clear hK K))|((with_reducible refine z25 ?_);intro K hK;(conv=>whnf))|(with_reducible refine z0 ?_)|((first|((with_reducible refine NV.i64 ?s ?_);case s=>omega)|((with_reducible refine NIf.yes ?s ?_);case s=>(simp [h1,h2,h3];done))|((with_reducible refine NIf.decY ?s ?_);case s=>omega)|(with_reducible first|refine NN.cast ?_|refine NN.a6 ?_|refine NN.keep ?_)|((with_reducible refine NH.mk ?s ?_);case s=>(and_intros<;>omega))|(with_reducible refine NLd.of (by with_reducible assumption) ?_))<;>(conv=>whnf))|(with_reducible refine st_ordSout ?_)|((with_reducible refine gNOK ?_);(first|(refine st_ordK1 rfl (by kernel_rfl) rfl ?_;intro K hK;(conv=>whnf))|(refine st_ordK1g rfl (by kernel_rfl) rfl ?_;intro K hK;(conv=>whnf))|refine st_ordK0 rfl (by kernel_rfl) ?_))|((with_reducible refine gX ?_);(first|refine st_orderS [] rfl rfl (by kernel_rfl) _ rfl ?_|(with_reducible first|refine z3 ?_|refine z4 ?_|refine z5 ?_|refine z6 ?_)|((with_reducible refine z29 ?_);intro A B hA hB;(conv=>whnf))))|(with_reducible first|refine z1 ?_|refine z2 ?_|refine z9 ?_)))
            all_goals first | (exfalso;omega) | refine st_round (k+1) hkl (by omega) ?_ (MemFits.eq rfl)
            all_goals repeat (first|exact FitsSl.nil|refine FitsSl.any ?_|refine FitsSl.cons (Fit1.int (by first | rfl | omega)) ?_|refine FitsSl.cons (Fit1.bool rfl) ?_|refine FitsSl.cons (Fit1.same (by intro h;cases h) (by with_reducible rfl)) ?_)
          · rw [if_neg (fun h=>by simp [h3] at h)] at hst
            (repeat' (first|(with_reducible first|(refine hK _ _ ?_;clear hK K)|(refine hA ?_;clear hA hB A B)|(refine hB ?_;clear hA hB A B)|(refine hK _ ?_;clear hK K))|((with_reducible refine z25 ?_);intro K hK;(conv=>whnf))|(with_reducible refine z0 ?_)|((first|((with_reducible refine NV.i64 ?s ?_);case s=>omega)|((with_reducible refine NIf.yes ?s ?_);case s=>(simp [h1,h2,h3];done))|((with_reducible refine NIf.no ?s ?_);case s=>(simp [h1,h2,h3];done))|((with_reducible refine NIf.decY ?s ?_);case s=>omega)|(with_reducible first|refine NN.cast ?_|refine NN.a6 ?_|refine NN.keep ?_)|((with_reducible refine NH.mk ?s ?_);case s=>(and_intros<;>omega))|(with_reducible refine NLd.of (by with_reducible assumption) ?_))<;>(conv=>whnf))|(with_reducible refine st_ordSout ?_)|((with_reducible refine gNOK ?_);(first|(refine st_ordK1 rfl (by kernel_rfl) rfl ?_;intro K hK;(conv=>whnf))|(refine st_ordK1g rfl (by kernel_rfl) rfl ?_;intro K hK;(conv=>whnf))|refine st_ordK0 rfl (by kernel_rfl) ?_))|((with_reducible refine gX ?_);(first|refine st_orderS [] rfl rfl (by kernel_rfl) _ rfl ?_|(with_reducible first|refine z3 ?_|refine z4 ?_|refine z5 ?_|refine z6 ?_)|((with_reducible refine z29 ?_);intro A B hA hB;(conv=>whnf))))|(with_reducible first|refine z1 ?_|refine z2 ?_|refine z9 ?_)))
            all_goals first | (exfalso;omega) | refine st_round (k+1) hkl (by omega) ?_ (MemFits.eq rfl)
            all_goals repeat (first|exact FitsSl.nil|refine FitsSl.any ?_|refine FitsSl.cons (Fit1.int (by first | rfl | omega)) ?_|refine FitsSl.cons (Fit1.bool rfl) ?_|refine FitsSl.cons (Fit1.same (by intro h;cases h) (by with_reducible rfl)) ?_)
        · rw [if_neg (fun h=>by simp [h2] at h)] at hst
          (repeat' (first|(with_reducible first|(refine hK _ _ ?_;clear hK K)|(refine hA ?_;clear hA hB A B)|(refine hB ?_;clear hA hB A B)|(refine hK _ ?_;clear hK K))|((with_reducible refine z25 ?_);intro K hK;(conv=>whnf))|(with_reducible refine z0 ?_)|((first|((with_reducible refine NV.i64 ?s ?_);case s=>omega)|((with_reducible refine NIf.yes ?s ?_);case s=>(simp [h1,h2];done))|((with_reducible refine NIf.no ?s ?_);case s=>(simp [h1,h2];done))|((with_reducible refine NIf.decY ?s ?_);case s=>omega)|(with_reducible first|refine NN.cast ?_|refine NN.a6 ?_|refine NN.keep ?_)|((with_reducible refine NH.mk ?s ?_);case s=>(and_intros<;>omega))|(with_reducible refine NLd.of (by with_reducible assumption) ?_))<;>(conv=>whnf))|(with_reducible refine st_ordSout ?_)|((with_reducible refine gNOK ?_);(first|(refine st_ordK1 rfl (by kernel_rfl) rfl ?_;intro K hK;(conv=>whnf))|(refine st_ordK1g rfl (by kernel_rfl) rfl ?_;intro K hK;(conv=>whnf))|refine st_ordK0 rfl (by kernel_rfl) ?_))|((with_reducible refine gX ?_);(first|refine st_orderS [] rfl rfl (by kernel_rfl) _ rfl ?_|(with_reducible first|refine z3 ?_|refine z4 ?_|refine z5 ?_|refine z6 ?_)|((with_reducible refine z29 ?_);intro A B hA hB;(conv=>whnf))))|(with_reducible first|refine z1 ?_|refine z2 ?_|refine z9 ?_)))
          all_goals first | (exfalso;omega) | refine st_round (k+1) hkl (by omega) ?_ (MemFits.eq rfl)
          all_goals repeat (first|exact FitsSl.nil|refine FitsSl.any ?_|refine FitsSl.cons (Fit1.int (by first | rfl | omega)) ?_|refine FitsSl.cons (Fit1.bool rfl) ?_|refine FitsSl.cons (Fit1.same (by intro h;cases h) (by with_reducible rfl)) ?_)
      · rw [if_neg (fun h=>h1 h.1)] at hst
        (repeat' (first|(with_reducible first|(refine hK _ _ ?_;clear hK K)|(refine hA ?_;clear hA hB A B)|(refine hB ?_;clear hA hB A B)|(refine hK _ ?_;clear hK K))|((with_reducible refine z25 ?_);intro K hK;(conv=>whnf))|(with_reducible refine z0 ?_)|((first|((with_reducible refine NV.i64 ?s ?_);case s=>omega)|((with_reducible refine NIf.no ?s ?_);case s=>(simp [h1];done))|((with_reducible refine NIf.decY ?s ?_);case s=>omega)|(with_reducible first|refine NN.cast ?_|refine NN.a6 ?_|refine NN.keep ?_)|((with_reducible refine NH.mk ?s ?_);case s=>(and_intros<;>omega))|(with_reducible refine NLd.of (by with_reducible assumption) ?_))<;>(conv=>whnf))|(with_reducible refine st_ordSout ?_)|((with_reducible refine gNOK ?_);(first|(refine st_ordK1 rfl (by kernel_rfl) rfl ?_;intro K hK;(conv=>whnf))|(refine st_ordK1g rfl (by kernel_rfl) rfl ?_;intro K hK;(conv=>whnf))|refine st_ordK0 rfl (by kernel_rfl) ?_))|((with_reducible refine gX ?_);(first|refine st_orderS [] rfl rfl (by kernel_rfl) _ rfl ?_|(with_reducible first|refine z3 ?_|refine z4 ?_|refine z5 ?_|refine z6 ?_)|((with_reducible refine z29 ?_);intro A B hA hB;(conv=>whnf))))|(with_reducible first|refine z1 ?_|refine z2 ?_|refine z9 ?_)))
        all_goals first | (exfalso;omega) | refine st_round (k+1) hkl (by omega) ?_ (MemFits.eq rfl)
        all_goals repeat (first|exact FitsSl.nil|refine FitsSl.any ?_|refine FitsSl.cons (Fit1.int (by first | rfl | omega)) ?_|refine FitsSl.cons (Fit1.bool rfl) ?_|refine FitsSl.cons (Fit1.same (by intro h;cases h) (by with_reducible rfl)) ?_)
    · have hkk:k=gs.length:=by omega
      subst hkk
      rw [List.take_length]
      (repeat' (first|(with_reducible first|(refine hK _ _ ?_;clear hK K)|(refine hB ?_;clear hA hB A B))|((with_reducible refine z25 ?_);intro K hK;(conv=>whnf))|(with_reducible refine z0 ?_)|((first|((with_reducible refine NV.i64 ?s ?_);case s=>omega)|((with_reducible refine NIf.decN ?s ?_);case s=>omega)|((with_reducible refine NH.mk ?s ?_);case s=>(and_intros<;>omega)))<;>(conv=>whnf))|(with_reducible first|refine z3 ?_|refine z4 ?_|refine z7 ?_)|((with_reducible refine z29 ?_);intro A B hA hB;(conv=>whnf))|(with_reducible first|refine z1 ?_|refine z2 ?_|refine z9 ?_|refine z10 ?_|refine z11 ?_|refine z19 ?_)))
      all_goals refine st_round (i+1) hlt (by omega) ?_ (MemFits.eq rfl)
      all_goals repeat (first|exact FitsSl.nil|refine FitsSl.any ?_|refine FitsSl.cons (Fit1.int (by first | rfl | omega)) ?_|refine FitsSl.cons (Fit1.same (by intro h;cases h) (by with_reducible rfl)) ?_)
  · have hii:i=l.length:=by omega
    subst hii
    rw [List.take_length]
    (repeat' (first|(with_reducible first|(refine hK _ _ ?_;clear hK K)|(refine hB ?_;clear hA hB A B)|(refine hK _ ?_;clear hK K))|((with_reducible refine z25 ?_);intro K hK;(conv=>whnf))|(with_reducible refine z0 ?_)|((first|((with_reducible refine NIf.decN ?s ?_);case s=>omega)|((with_reducible refine NH.mk ?s ?_);case s=>(and_intros<;>omega)))<;>(conv=>whnf))|(with_reducible first|refine z3 ?_|refine z4 ?_|refine z7 ?_|refine z8 ?_)|((with_reducible refine z29 ?_);intro A B hA hB;(conv=>whnf))|(with_reducible first|refine z1 ?_|refine z2 ?_|refine z10 ?_|refine z11 ?_|refine z19 ?_)|((with_reducible refine gR ?_);(refine z31 rfl ?_;intro K hK;(conv=>whnf)))))
    all_goals exact ⟨rfl,G,hle,MemFits.pre 1 rfl⟩
end Go.Proofs.Ytijkmhmgigaieaa
