import Derived.Test.YtaojbkphcnailaaDoorJ36
import Derived.Test.YtaojbkphcnailaaDoorJ15
namespace Go.Proofs.YtaojbkphcnailaaDoor
open Go.Sx
set_option maxRecDepth 20000
set_option linter.unusedSimpArgs false
set_option linter.unusedVariables false
set_option maxHeartbeats 4000000
set_option linter.unusedVariables false
section
variable (F:Heap)
end
end Go.Proofs.YtaojbkphcnailaaDoor
namespace Go.Proofs.YtaojbkphcnailaaDoor
open Go.Sx
set_option maxRecDepth 20000
set_option linter.unusedSimpArgs false
set_option linter.unusedVariables false
set_option maxHeartbeats 4000000
set_option linter.unusedVariables false
section
variable (F:Heap)
theorem refsame27_c:∀ (n:Nat) (x y:Po.T) (pu u pw w:Value),Po.tot x≤n→Po.tot x≤4611686018427387904→Po.tot y≤4611686018427387904→Po.At F x pu u→Po.At F y pw w →
    NCall Tryd.prog 9 [.agg (Po.cs x pu u),.agg (Po.cs y pw w)] [hpB F] fun r m=>r = .bool (Po.same x y)∧m=[hpB F]
  | 0,x,y,pu,u,pw,w,hn,_,_,_,_=>absurd (Po.tot_pos x) (by omega)
  | n+1,⟨k,p,f,v,a⟩,⟨k',p',f',v',b⟩,pu,u,pw,w,hn,hs,hs',hx0,hy0=>by
    refine NCall.fits (K:=fun r m=>r = .bool (Po.same (.mk k p f v a) (.mk k' p' f' v' b))∧MemFits m [hpB F]) ?_ fun r m' h=>⟨r,_,rfl,h.2,h.1,rfl⟩
    have hv:Po.Row F u a:=hx0.l
    have hw:Po.Row F w b:=hy0.l
    have hp:Pd.Row F pu p.l:=hx0.p
    have hp':Pd.Row F pw p'.l:=hy0.p
    have e:Po.same (.mk k p f v a) (.mk k' p' f' v' b)=(decide (k=k')&&decide (f=f')&&decide (v=v')&&Pd.same p p'&&Po.sameL a b):=by rw [Po.same]
    have e2:=Po.tot_mk k p f v a
    have e3:=Po.tot_mk k' p' f' v' b
    have hll:=Po.length_le a
    have hll':=Po.length_le b
    have hg:∀ x∈a,∀ y∈b,∀ pA A pB B,Po.At F x pA A→Po.At F y pB B→_:=fun x hx y hy pA A pB B hA hB=>refsame27_c n x y pA A pB B (by have:=Po.tot_lt (k:=k) (q:=p) (f:=f) (v:=v) hx;omega) (by have:=Po.tot_lt (k:=k) (q:=p) (f:=f) (v:=v) hx;omega) (by have:=Po.tot_lt (k:=k') (q:=p') (f:=f') (v:=v') hy;omega) hA hB
    have hok:=hv.ok
    have hok2:=hw.ok
    have hpok:=hp.ok
    have hpok2:=hp'.ok
    have cp:=refsame26_c F _ p p' pu pw (Nat.le_refl _) (by omega) (by omega) hp hp'
    have hs2:=Po.sameL_iff a b
    have hpp:Pd.same p p'=true→True:=fun _=>trivial
    rw [e]
    have hla:a.length≤4611686018427387904:=by omega
    have hlb:b.length≤4611686018427387904:=by omega
    clear e e2 e3 hs hs' hn hx0 hy0 hll hll'
    refine ncall_of Tryd.func9 rfl (by decide) ?_
    rw [po_cs,po_cs]
    generalize Pd.same p p'=bp at *
    obtain ⟨pk,pf,pv,pl⟩:=p
    obtain ⟨pk',pf',pv',pl'⟩:=p'
    simp only [pd_cs,Pd.T.k,Pd.T.f,Pd.T.v,Pd.T.l] at *
    by_cases h1:((k=k'∧f=f'∧v=v')∧bp=true)∧a.length=b.length
    · obtain ⟨⟨⟨rfl,rfl,rfl⟩,rfl⟩,hl⟩:=h1
      simp only [decide_true,Bool.true_and]
      (repeat' (first|(with_reducible first|(refine hK _ _ ?_;clear hK K)|(refine hB ?_;clear hA hB A B)|(refine hK _ ?_;clear hK K))|((with_reducible first|refine z25 ?_|refine z26 ?_);intro K hK;(conv=>whnf))|(with_reducible refine z0 ?_)|((first|((with_reducible refine NIf.no ?s ?_);case s=>(simp ;done))|with_reducible refine NIf.not_ ?_|((with_reducible refine NIf.decY ?s ?_);case s=>omega)|(with_reducible refine NN.a5 ?_)|((with_reducible refine NH.mk ?s ?_);case s=>(and_intros<;>first|with_reducible rfl|omega))|((with_reducible refine NCall.isF 13 ?_);refine NCall.subE [0] (cp) rfl (by decide) rfl rfl ?_))<;>(conv=>whnf))|(with_reducible first|refine z3 ?_|refine z4 ?_|refine z5 ?_|refine z6 ?_)|((with_reducible refine z29 ?_);intro A B hA hB;(conv=>whnf))|(with_reducible first|refine z1 ?_|refine z2 ?_)|((with_reducible refine gF ?_);(refine z33 rfl ?_;intro K hK;(conv=>whnf)))|((intro _;skip)<;>(conv=>whnf))))
      all_goals first | (exfalso;omega) | skip
      refine st_auto (α:=Nat) (fun k=>k≤a.length∧∀ (j:Nat) (x y:Po.T),j<k→a[j]?=some x→b[j]?=some y→Po.same x y=true) (fun k=>[.keep,.keep,.keep,.keep,.drop,.set (.int .i64 k),.keep,.keep,.keep,.keep,.keep,.keep,.keep,.keep,.keep,.keep,.keep,.keep,.keep,.keep,.keep,.keep,.keep,.keep,.keep,.keep,.keep,.keep,.keep,.keep,.keep,.keep,.keep,.keep,.keep,.keep,.keep,.keep,.keep,.keep,.keep,.keep,.drop,.drop,.drop,.drop,.drop,.drop,.drop,.drop,.drop,.drop,.drop,.drop,.drop,.drop,.drop,.drop,.drop,.drop,.drop]) (fun _=>[]) (fun k=>a.length - k) 0 ⟨Nat.zero_le _,fun j x y hj=>absurd hj (Nat.not_lt_zero _)⟩ ?_ (MemFits.eq rfl) ?_
      · repeat (first|exact FitsSl.nil|refine FitsSl.any ?_|refine FitsSl.cons (Fit1.int (by first | rfl | omega)) ?_|refine FitsSl.cons (Fit1.bool rfl) ?_|refine FitsSl.cons (Fit1.same (by intro h;cases h) (by with_reducible rfl)) ?_)
      (intro i ⟨hk,hgone⟩;intro K hK;(conv=>whnf);refine hK _ _ ?_;clear hK K)
      by_cases hlt:i<a.length
      · have hx:a[i]?=some a[i]:=List.getElem?_eq_getElem hlt
        have hy:b[i]?=some (b[i]'(by omega)):=List.getElem?_eq_getElem (by omega)
        obtain ⟨pA,pcap,A,cap,hA,c0,c1,c2,c3,c4,c5,c6,c7⟩:=hv.get hx
        obtain ⟨pB,pcap',B,cap',hB,d0,d1,d2,d3,d4,d5,d6,d7⟩:=hw.get hy
        have c:=hg _ (List.mem_of_getElem? hx) _ (List.mem_of_getElem? hy) _ _ _ _ hA hB
        clear hg cp
        generalize a[i]=x at *
        generalize (b[i]'(by omega))=y at *
        generalize hq:Po.same x y=q at *
        obtain ⟨xk,⟨xpk,xpf,xpv,xpl⟩,xf,xv,xl⟩:=x
        obtain ⟨yk,⟨ypk,ypf,ypv,ypl⟩,yf,yv,yl⟩:=y
        simp only [Po.cs,Po.T.k,Po.T.p,Po.T.f,Po.T.v,Po.T.l,Pd.T.k,Pd.T.f,Pd.T.v,Pd.T.l] at c c0 c1 c2 c3 c4 c5 c6 c7 d0 d1 d2 d3 d4 d5 d6 d7
        cases q with
        | true =>
          (repeat' (first|(with_reducible first|(refine hK _ _ ?_;clear hK K)|(refine hA ?_;clear hA hB A B)|(refine hB ?_;clear hA hB A B)|(refine hK _ ?_;clear hK K))|((with_reducible refine z25 ?_);intro K hK;(conv=>whnf))|(with_reducible refine z0 ?_)|((first|((with_reducible refine NV.i64 ?s ?_);case s=>omega)|with_reducible refine NIf.not_ ?_|((with_reducible refine NIf.decY ?s ?_);case s=>omega)|((with_reducible refine NIf.yes ?s ?_);case s=>rfl)|(with_reducible first|refine NN.cast ?_|refine NN.a5 ?_|refine NN.keep ?_)|((with_reducible refine NH.mk ?s ?_);case s=>(and_intros<;>first|with_reducible rfl|((with_reducible refine gKept ?_);exact rfl)|omega|rfl))|((with_reducible refine NCall.isF 9 ?_);refine NCall.subE [0] (c) rfl (by decide) rfl rfl ?_)|(with_reducible refine NLd.of (by with_reducible assumption) ?_))<;>(conv=>whnf))|(with_reducible refine st_ordSout ?_)|((with_reducible refine gNOK ?_);(first|(refine st_ordK1 rfl (by kernel_rfl) rfl ?_;intro K hK;(conv=>whnf))|refine st_ordK0 rfl (by kernel_rfl) ?_|refine st_ordKA rfl rfl (by kernel_rfl) (by intro h;cases h) ?_))|((with_reducible refine gNEK ?_);(first|(refine st_eachK ?_ ?_;(intro K hK;(conv=>whnf)))|exact st_eachK0))|((with_reducible refine gX ?_);(first|refine st_orderS [] rfl rfl (by kernel_rfl) _ rfl ?_|(with_reducible first|refine z3 ?_|refine z4 ?_|refine z5 ?_|refine z6 ?_)|((with_reducible refine z29 ?_);intro A B hA hB;(conv=>whnf))))|(with_reducible first|refine z1 ?_|refine z2 ?_|refine z9 ?_)))
          all_goals
            refine st_round (i+1) ⟨hlt,fun j x' y' hj h1 h2=>?_⟩ (by omega) ?_ (MemFits.eq rfl)
            · by_cases e:j=i
              · subst e
                rw [hx] at h1
                rw [hy] at h2
                injection h1 with h1
                injection h2 with h2
                rw [← h1,← h2];exact hq
              · exact hgone j x' y' (by omega) h1 h2
            repeat (first|exact FitsSl.nil|refine FitsSl.any ?_|refine FitsSl.cons (Fit1.int (by first | rfl | omega)) ?_|refine FitsSl.cons (Fit1.bool rfl) ?_|refine FitsSl.cons (Fit1.same (by intro h;cases h) (by with_reducible rfl)) ?_)
        | false =>
          have hne:Po.sameL a b=false:=by
            cases h:Po.sameL a b with
            | false=>rfl
            | true=>have:=(hs2.1 h).2 i _ _ hx hy;rw [hq] at this;cases this
          rw [hne]
          (repeat' (first|(with_reducible first|(refine hK _ _ ?_;clear hK K)|(refine hA ?_;clear hA hB A B)|(refine hK _ ?_;clear hK K))|((with_reducible refine z25 ?_);intro K hK;(conv=>whnf))|(with_reducible refine z0 ?_)|((first|with_reducible refine NIf.not_ ?_|((with_reducible refine NIf.decY ?s ?_);case s=>omega)|((with_reducible refine NIf.no ?s ?_);case s=>rfl)|(with_reducible first|refine NN.cast ?_|refine NN.a5 ?_|refine NN.keep ?_)|((with_reducible refine NH.mk ?s ?_);case s=>(and_intros<;>first|with_reducible rfl|((with_reducible refine gKept ?_);exact rfl)|omega|rfl))|((with_reducible refine NCall.isF 9 ?_);refine NCall.subE [0] (c) rfl (by decide) rfl rfl ?_)|(with_reducible refine NLd.of (by with_reducible assumption) ?_))<;>(conv=>whnf))|(with_reducible refine st_ordSout ?_)|((with_reducible refine gNOK ?_);(first|(refine st_ordK1 rfl (by kernel_rfl) rfl ?_;intro K hK;(conv=>whnf))|refine st_ordK0 rfl (by kernel_rfl) ?_|refine st_ordKA rfl rfl (by kernel_rfl) (by intro h;cases h) ?_))|((with_reducible refine gNEK ?_);(first|(refine st_eachK ?_ ?_;(intro K hK;(conv=>whnf)))|exact st_eachK0))|((with_reducible refine gX ?_);(first|refine st_orderS [] rfl rfl (by kernel_rfl) _ rfl ?_|(with_reducible first|refine z3 ?_|refine z4 ?_|refine z5 ?_|refine z6 ?_|refine z8 ?_)|((with_reducible refine z29 ?_);intro A B hA hB;(conv=>whnf))))|(with_reducible first|refine z1 ?_|refine z2 ?_|refine z12 ?_|refine z13 ?_|refine z20 ?_)|((with_reducible refine gR ?_);(refine z31 rfl ?_;intro K hK;(conv=>whnf)))))
          all_goals exact ⟨rfl,MemFits.pre 1 rfl⟩
      · have hy:Po.sameL a b=true:=hs2.2 ⟨hl,fun j x y h1 h2=>hgone j x y (by have:=(List.getElem?_eq_some_iff.1 h1).1;omega) h1 h2⟩
        rw [hy]
        (repeat' (first|(with_reducible first|(refine hK _ _ ?_;clear hK K)|(refine hB ?_;clear hA hB A B)|(refine hK _ ?_;clear hK K))|((with_reducible refine z25 ?_);intro K hK;(conv=>whnf))|(with_reducible refine z0 ?_)|((first|((with_reducible refine NIf.decN ?s ?_);case s=>omega)|(with_reducible refine NN.a5 ?_)|((with_reducible refine NH.mk ?s ?_);case s=>(and_intros<;>first|with_reducible rfl|omega)))<;>(conv=>whnf))|(with_reducible first|refine z3 ?_|refine z4 ?_|refine z7 ?_|refine z8 ?_)|((with_reducible refine z29 ?_);intro A B hA hB;(conv=>whnf))|(with_reducible first|refine z1 ?_|refine z2 ?_|refine z10 ?_|refine z11 ?_|refine z19 ?_)|((with_reducible refine gR ?_);(refine z31 rfl ?_;intro K hK;(conv=>whnf)))))
        all_goals exact ⟨rfl,MemFits.pre 1 rfl⟩
    · have hne:(decide (k=k')&&decide (f=f')&&decide (v=v')&&bp&&Po.sameL a b)=false:=by
        cases h:(decide (k=k')&&decide (f=f')&&decide (v=v')&&bp&&Po.sameL a b) with
        | false=>rfl
        | true =>
          simp only [Bool.and_eq_true,decide_eq_true_eq] at h
          exact (h1 ⟨⟨⟨h.1.1.1.1,h.1.1.1.2,h.1.1.2⟩,h.1.2⟩,(hs2.1 h.2).1⟩).elim
      rw [hne]
      clear hg hs2
      cases bp
      all_goals
        (repeat' (first|(with_reducible first|(refine hK _ _ ?_;clear hK K)|(refine hA ?_;clear hA hB A B)|(refine hB ?_;clear hA hB A B)|(refine hK _ ?_;clear hK K))|((with_reducible first|refine z25 ?_|refine z26 ?_);intro K hK;(conv=>whnf))|(with_reducible refine z0 ?_)|((first|with_reducible refine NIf.not_ ?_|((with_reducible refine NIf.decY ?s ?_);case s=>assumption)|((with_reducible refine NIf.decN ?s ?_);case s=>assumption)|((with_reducible refine NIf.yes ?s ?_);case s=>rfl)|((with_reducible refine NIf.no ?s ?_);case s=>rfl)|(with_reducible first|refine NIf.dec (fun _=>?_) (fun _=>?_)|refine NN.a5 ?_)|((with_reducible refine NH.mk ?s ?_);case s=>(and_intros<;>first|with_reducible rfl|omega))|((with_reducible refine NCall.isF 13 ?_);refine NCall.subE [0] (cp) rfl (by decide) rfl rfl ?_))<;>(conv=>whnf))|(with_reducible first|refine z3 ?_|refine z4 ?_|refine z5 ?_|refine z6 ?_|refine z8 ?_)|((with_reducible refine z29 ?_);intro A B hA hB;(conv=>whnf))|(with_reducible first|refine z1 ?_|refine z2 ?_|refine z12 ?_)|((with_reducible refine gR ?_);(refine z31 rfl ?_;intro K hK;(conv=>whnf)))|((with_reducible refine gF ?_);(refine z33 rfl ?_;intro K hK;(conv=>whnf)))|((intro _;skip)<;>(conv=>whnf))))
      all_goals first
        | exact ⟨rfl,MemFits.pre 1 rfl⟩
        | (exfalso;exact h1 ⟨⟨⟨by omega,by omega,by omega⟩,rfl⟩,by omega⟩)
end
end Go.Proofs.YtaojbkphcnailaaDoor
