import Derived.Test.YtaojbkphcnailaaDoorJ14
namespace Go.Proofs.YtaojbkphcnailaaDoor
open Go.Sx
set_option maxRecDepth 20000
set_option linter.unusedSimpArgs false
set_option linter.unusedVariables false
set_option maxHeartbeats 4000000
set_option linter.unusedVariables false
section
variable (F:Heap)
theorem refsame26_c:∀ (n:Nat) (p q:Pd.T) (u w:Value),Pd.size p≤n→Pd.size p≤4611686018427387904→Pd.size q≤4611686018427387904→Pd.Row F u p.l→Pd.Row F w q.l →
    NCall Tryd.prog 13 [.agg (Pd.cs p u),.agg (Pd.cs q w)] [hpB F] fun r m=>r = .bool (Pd.same p q)∧m=[hpB F]
  | 0,p,q,u,w,hn,_,_,_,_=>absurd (Pd.size_pos p) (by omega)
  | n+1,⟨k,f,v,a⟩,⟨k',f',v',b⟩,u,w,hn,hs,hs',hv,hw=>by
    refine NCall.fits (K:=fun r m=>r = .bool (Pd.same (.mk k f v a) (.mk k' f' v' b))∧MemFits m [hpB F]) ?_ fun r m' h=>⟨r,_,rfl,h.2,h.1,rfl⟩
    have hv:Pd.Row F u a:=hv
    have hw:Pd.Row F w b:=hw
    have e:Pd.same (.mk k f v a) (.mk k' f' v' b)=(decide (k=k')&&decide (f=f')&&decide (v=v')&&Pd.sameL a b):=by rw [Pd.same]
    have e2:Pd.size (.mk k f v a)=1+Pd.sizeL a:=by rw [Pd.size]
    have e3:Pd.size (.mk k' f' v' b)=1+Pd.sizeL b:=by rw [Pd.size]
    have hll:=Pd.length_le a
    have hll':=Pd.length_le b
    have hg:∀ x∈a,∀ y∈b,∀ A B,Pd.Row F A x.l→Pd.Row F B y.l→_:=fun x hx y hy A B hA hB=>refsame26_c n x y A B (by have:=Pd.size_lt (k:=k) (f:=f) (v:=v) hx;omega) (by have:=Pd.size_lt (k:=k) (f:=f) (v:=v) hx;omega) (by have:=Pd.size_lt (k:=k') (f:=f') (v:=v') hy;omega) hA hB
    have hok:=hv.ok
    have hok2:=hw.ok
    have hs:=Pd.sameL_iff a b
    rw [e]
    refine ncall_of Tryd.func13 rfl (by decide) ?_
    rw [pd_cs,pd_cs]
    by_cases h1:(k=k'∧f=f'∧v=v')∧a.length=b.length
    · obtain ⟨⟨rfl,rfl,rfl⟩,hl⟩:=h1
      simp only [decide_true,Bool.true_and]
      (repeat' (first|(with_reducible first|(refine hK _ _ ?_;clear hK K)|(refine hB ?_;clear hA hB A B)|(refine hK _ ?_;clear hK K))|((with_reducible first|refine z25 ?_|refine z26 ?_);intro K hK;(conv=>whnf))|(with_reducible refine z0 ?_)|((first|((with_reducible refine NIf.no ?s ?_);case s=>(simp ;done))|with_reducible refine NIf.not_ ?_|((with_reducible refine NIf.decY ?s ?_);case s=>omega)|(with_reducible refine NN.a5 ?_)|((with_reducible refine NH.mk ?s ?_);case s=>(and_intros<;>first|with_reducible rfl|omega)))<;>(conv=>whnf))|(with_reducible first|refine z3 ?_|refine z4 ?_|refine z5 ?_|refine z6 ?_)|((with_reducible refine z29 ?_);intro A B hA hB;(conv=>whnf))|(with_reducible first|refine z1 ?_|refine z2 ?_)|((with_reducible refine gF ?_);(refine z33 rfl ?_;intro K hK;(conv=>whnf)))|((intro _;skip)<;>(conv=>whnf))))
      refine st_auto (α:=Nat) (fun k=>k≤a.length∧∀ (j:Nat) (x y:Pd.T),j<k→a[j]?=some x→b[j]?=some y→Pd.same x y=true) (fun k=>[.keep,.keep,.keep,.keep,.drop,.set (.int .i64 k),.keep,.keep,.keep,.keep,.keep,.keep,.keep,.keep,.keep,.keep,.keep,.keep,.keep,.keep,.keep,.keep,.keep,.keep,.keep,.keep,.keep,.keep,.keep,.keep,.keep,.keep,.keep,.keep,.drop,.drop,.drop,.drop,.drop,.drop,.drop,.drop,.drop,.drop,.drop,.drop,.drop,.drop,.drop,.drop,.drop,.drop,.drop]) (fun _=>[]) (fun k=>a.length - k) 0 ⟨Nat.zero_le _,fun j x y hj=>absurd hj (Nat.not_lt_zero _)⟩ ?_ (MemFits.eq rfl) ?_
      · repeat (first|exact FitsSl.nil|refine FitsSl.any ?_|refine FitsSl.cons (Fit1.int (by first | rfl | omega)) ?_|refine FitsSl.cons (Fit1.bool rfl) ?_|refine FitsSl.cons (Fit1.same (by intro h;cases h) (by with_reducible rfl)) ?_)
      (intro i ⟨hk,hgone⟩;intro K hK;(conv=>whnf);refine hK _ _ ?_;clear hK K)
      by_cases hlt:i<a.length
      · have hx:a[i]?=some a[i]:=List.getElem?_eq_getElem hlt
        have hy:b[i]?=some (b[i]'(by omega)):=List.getElem?_eq_getElem (by omega)
        obtain ⟨A,cap,hA,c0,c1,c2,c3⟩:=hv.get hx
        obtain ⟨B,cap',hB,d0,d1,d2,d3⟩:=hw.get hy
        have c:=hg _ (List.mem_of_getElem? hx) _ (List.mem_of_getElem? hy) _ _ hA hB
        generalize a[i]=x at *
        generalize (b[i]'(by omega))=y at *
        simp only [Pd.cs] at c
        by_cases hq:Pd.same x y=true
        · rw [hq] at c
          (repeat' (first|(with_reducible first|(refine hK _ _ ?_;clear hK K)|(refine hA ?_;clear hA hB A B)|(refine hB ?_;clear hA hB A B)|(refine hK _ ?_;clear hK K))|((with_reducible refine z25 ?_);intro K hK;(conv=>whnf))|(with_reducible refine z0 ?_)|((first|((with_reducible refine NV.i64 ?s ?_);case s=>omega)|with_reducible refine NIf.not_ ?_|((with_reducible refine NIf.decY ?s ?_);case s=>omega)|((with_reducible refine NIf.yes ?s ?_);case s=>rfl)|(with_reducible first|refine NN.cast ?_|refine NN.a5 ?_|refine NN.keep ?_)|((with_reducible refine NH.mk ?s ?_);case s=>(and_intros<;>first|with_reducible rfl|((with_reducible refine gKept ?_);exact rfl)|omega|rfl))|((with_reducible refine NCall.isF 13 ?_);refine NCall.subE [0] (c) rfl (by decide) rfl rfl ?_)|(with_reducible refine NLd.of (by with_reducible assumption) ?_))<;>(conv=>whnf))|(with_reducible refine st_ordSout ?_)|((with_reducible refine gNOK ?_);(first|(refine st_ordK1 rfl (by kernel_rfl) rfl ?_;intro K hK;(conv=>whnf))|refine st_ordK0 rfl (by kernel_rfl) ?_|refine st_ordKA rfl rfl (by kernel_rfl) (by intro h;cases h) ?_))|((with_reducible refine gNEK ?_);(first|(refine st_eachK ?_ ?_;(intro K hK;(conv=>whnf)))|exact st_eachK0))|((with_reducible refine gX ?_);(first|refine st_orderS [] rfl rfl (by kernel_rfl) _ rfl ?_|(with_reducible first|refine z3 ?_|refine z4 ?_|refine z5 ?_|refine z6 ?_)|((with_reducible refine z29 ?_);intro A B hA hB;(conv=>whnf))))|(with_reducible first|refine z1 ?_|refine z2 ?_|refine z9 ?_)))
          refine st_round (i+1) ⟨hlt,fun j x' y' hj h1 h2=>?_⟩ (by omega) ?_ (MemFits.eq rfl)
          · by_cases e:j=i
            · subst e
              rw [hx] at h1
              rw [hy] at h2
              injection h1 with h1
              injection h2 with h2
              rw [← h1,← h2];exact hq
            · exact hgone j x' y' (by omega) h1 h2
          · repeat (first|exact FitsSl.nil|refine FitsSl.any ?_|refine FitsSl.cons (Fit1.int (by first | rfl | omega)) ?_|refine FitsSl.cons (Fit1.bool rfl) ?_|refine FitsSl.cons (Fit1.same (by intro h;cases h) (by with_reducible rfl)) ?_)
        · have hqf:Pd.same x y=false:=by simpa using hq
          rw [hqf] at c
          have hne:Pd.sameL a b=false:=by
            cases h:Pd.sameL a b with
            | false=>rfl
            | true=>exact (hq ((hs.1 h).2 i x y hx hy)).elim
          rw [hne]
          (repeat' (first|(with_reducible first|(refine hK _ _ ?_;clear hK K)|(refine hA ?_;clear hA hB A B)|(refine hK _ ?_;clear hK K))|((with_reducible refine z25 ?_);intro K hK;(conv=>whnf))|(with_reducible refine z0 ?_)|((first|with_reducible refine NIf.not_ ?_|((with_reducible refine NIf.decY ?s ?_);case s=>omega)|((with_reducible refine NIf.no ?s ?_);case s=>rfl)|(with_reducible first|refine NN.cast ?_|refine NN.a5 ?_|refine NN.keep ?_)|((with_reducible refine NH.mk ?s ?_);case s=>(and_intros<;>first|with_reducible rfl|((with_reducible refine gKept ?_);exact rfl)|omega|rfl))|((with_reducible refine NCall.isF 13 ?_);refine NCall.subE [0] (c) rfl (by decide) rfl rfl ?_)|(with_reducible refine NLd.of (by with_reducible assumption) ?_))<;>(conv=>whnf))|(with_reducible refine st_ordSout ?_)|((with_reducible refine gNOK ?_);(first|(refine st_ordK1 rfl (by kernel_rfl) rfl ?_;intro K hK;(conv=>whnf))|refine st_ordK0 rfl (by kernel_rfl) ?_|refine st_ordKA rfl rfl (by kernel_rfl) (by intro h;cases h) ?_))|((with_reducible refine gNEK ?_);(first|(refine st_eachK ?_ ?_;(intro K hK;(conv=>whnf)))|exact st_eachK0))|((with_reducible refine gX ?_);(first|refine st_orderS [] rfl rfl (by kernel_rfl) _ rfl ?_|(with_reducible first|refine z3 ?_|refine z4 ?_|refine z5 ?_|refine z6 ?_|refine z8 ?_)|((with_reducible refine z29 ?_);intro A B hA hB;(conv=>whnf))))|(with_reducible first|refine z1 ?_|refine z2 ?_|refine z12 ?_|refine z13 ?_|refine z20 ?_)|((with_reducible refine gR ?_);(refine z31 rfl ?_;intro K hK;(conv=>whnf)))))
          all_goals exact ⟨rfl,MemFits.pre 1 rfl⟩
      · have hy:Pd.sameL a b=true:=hs.2 ⟨hl,fun j x y h1 h2=>hgone j x y (by have:=(List.getElem?_eq_some_iff.1 h1).1;omega) h1 h2⟩
        rw [hy]
        (repeat' (first|(with_reducible first|(refine hK _ _ ?_;clear hK K)|(refine hB ?_;clear hA hB A B)|(refine hK _ ?_;clear hK K))|((with_reducible refine z25 ?_);intro K hK;(conv=>whnf))|(with_reducible refine z0 ?_)|((first|((with_reducible refine NIf.decN ?s ?_);case s=>omega)|(with_reducible refine NN.a5 ?_)|((with_reducible refine NH.mk ?s ?_);case s=>(and_intros<;>first|with_reducible rfl|omega)))<;>(conv=>whnf))|(with_reducible first|refine z3 ?_|refine z4 ?_|refine z7 ?_|refine z8 ?_)|((with_reducible refine z29 ?_);intro A B hA hB;(conv=>whnf))|(with_reducible first|refine z1 ?_|refine z2 ?_|refine z10 ?_|refine z11 ?_|refine z19 ?_)|((with_reducible refine gR ?_);(refine z31 rfl ?_;intro K hK;(conv=>whnf)))))
        all_goals exact ⟨rfl,MemFits.pre 1 rfl⟩
    · have hne:(decide (k=k')&&decide (f=f')&&decide (v=v')&&Pd.sameL a b)=false:=by
        cases h:(decide (k=k')&&decide (f=f')&&decide (v=v')&&Pd.sameL a b) with
        | false=>rfl
        | true =>
          simp only [Bool.and_eq_true,decide_eq_true_eq] at h
          exact (h1 ⟨⟨h.1.1.1,h.1.1.2,h.1.2⟩,(hs.1 h.2).1⟩).elim
      rw [hne]
      (repeat' (first|(with_reducible first|(refine hK _ _ ?_;clear hK K)|(refine hA ?_;clear hA hB A B)|(refine hK _ ?_;clear hK K))|((with_reducible first|refine z25 ?_|refine z26 ?_);intro K hK;(conv=>whnf))|(with_reducible refine z0 ?_)|((first|with_reducible refine NIf.not_ ?_|((with_reducible refine NIf.decY ?s ?_);case s=>assumption)|((with_reducible refine NIf.decN ?s ?_);case s=>first|assumption|omega)|((with_reducible refine NIf.yes ?s ?_);case s=>rfl)|(with_reducible first|refine NIf.dec (fun _=>?_) (fun _=>?_)|refine NN.a5 ?_)|((with_reducible refine NH.mk ?s ?_);case s=>(and_intros<;>first|with_reducible rfl|omega)))<;>(conv=>whnf))|(with_reducible first|refine z3 ?_|refine z4 ?_|refine z8 ?_)|((with_reducible refine z29 ?_);intro A B hA hB;(conv=>whnf))|(with_reducible first|refine z1 ?_|refine z2 ?_|refine z12 ?_)|((with_reducible refine gR ?_);(refine z31 rfl ?_;intro K hK;(conv=>whnf)))|((with_reducible refine gF ?_);(refine z33 rfl ?_;intro K hK;(conv=>whnf)))|((intro _;skip)<;>(conv=>whnf))))
      all_goals first
        | exact ⟨rfl,MemFits.pre 1 rfl⟩
        | (exfalso;exact h1 ⟨⟨by omega,by omega,by omega⟩,by omega⟩)
end
end Go.Proofs.YtaojbkphcnailaaDoor
namespace Go.Proofs.YtaojbkphcnailaaDoor
open Go.Sx
set_option maxRecDepth 20000
set_option linter.unusedSimpArgs false
set_option linter.unusedVariables false
set_option maxHeartbeats 4000000
set_option linter.unusedVariables false
section
variable (F:Heap)
end
end Go.Proofs.YtaojbkphcnailaaDoor
