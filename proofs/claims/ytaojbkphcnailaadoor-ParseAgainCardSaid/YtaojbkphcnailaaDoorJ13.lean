import Derived.Test.YtaojbkphcnailaaDoorJ9
namespace Go.Proofs.YtaojbkphcnailaaDoor
open Go.Sx
set_option maxRecDepth 20000
set_option linter.unusedSimpArgs false
set_option linter.unusedVariables false
set_option maxHeartbeats 4000000
set_option linter.unusedVariables false
section
variable (F:Heap)
theorem equal26_c (v w:Value) (a b:List Pd.T) (hv:Pd.Row F v a) (hw:Pd.Row F w b) (ha:a.length≤4611686018427387904) (hb:b.length≤4611686018427387904) (g:FuncId)
    (hg:∀ x∈a,∀ y∈b,∀ A B,Pd.Row F A x.l→Pd.Row F B y.l→NCall Tryd.prog g [.agg (Pd.cs x A),.agg (Pd.cs y B)] [hpB F] fun r m=>r = .bool (Pd.same x y)∧m=[hpB F]) :
    NCall Tryd.prog 77 [.hs v a.length,.hs w b.length,.fn g [] []] [hpB F] fun r m=>r = .bool (Pd.sameL a b)∧m=[hpB F]:=by
  refine NCall.fits (K:=fun r m=>r = .bool (Pd.sameL a b)∧MemFits m [hpB F]) ?_ fun r m' h=>⟨r,_,rfl,h.2,h.1,rfl⟩
  have hok:=hv.ok
  have hok2:=hw.ok
  have hs:=Pd.sameL_iff a b
  refine ncall_of Tryd.func77 rfl (by decide) ?_
  by_cases hl:a.length=b.length
  · (repeat' (first|(with_reducible first|(refine hK _ _ ?_;clear hK K)|(refine hB ?_;clear hA hB A B)|(refine hK _ ?_;clear hK K))|((with_reducible refine z25 ?_);intro K hK;(conv=>whnf))|(with_reducible refine z0 ?_)|((first|with_reducible refine NIf.not_ ?_|((with_reducible refine NIf.decY ?s ?_);case s=>omega)|((with_reducible refine NH.mk ?s ?_);case s=>(and_intros<;>omega)))<;>(conv=>whnf))|(with_reducible first|refine z3 ?_|refine z4 ?_|refine z5 ?_|refine z6 ?_)|((with_reducible refine z29 ?_);intro A B hA hB;(conv=>whnf))|(with_reducible first|refine z1 ?_|refine z2 ?_)|((with_reducible refine gF ?_);(refine z33 rfl ?_;intro K hK;(conv=>whnf)))))
    refine st_auto (α:=Nat) (fun k=>k≤a.length∧∀ (j:Nat) (x y:Pd.T),j<k→a[j]?=some x→b[j]?=some y→Pd.same x y=true) (fun k=>[.keep,.keep,.keep,.keep,.keep,.keep,.drop,.drop,.drop,.drop,.keep,.keep,.keep,.keep,.keep,.keep,.keep,.set (.int .i64 k),.drop,.drop,.drop,.drop,.drop,.drop,.drop,.drop,.drop,.drop,.drop,.drop,.drop,.drop]) (fun _=>[]) (fun k=>a.length - k) 0 ⟨Nat.zero_le _,fun j x y hj=>absurd hj (Nat.not_lt_zero _)⟩ ?_ (MemFits.eq rfl) ?_
    · repeat (first|exact FitsSl.nil|refine FitsSl.any ?_|refine FitsSl.cons (Fit1.int (by first | rfl | omega)) ?_|refine FitsSl.cons (Fit1.bool rfl) ?_|refine FitsSl.cons (Fit1.same (by intro h;cases h) (by with_reducible rfl)) ?_)
    (intro k ⟨hk,hgone⟩;intro K hK;(conv=>whnf);refine hK _ _ ?_;clear hK K)
    by_cases hlt:k<a.length
    · have hx:a[k]?=some a[k]:=List.getElem?_eq_getElem hlt
      have hy:b[k]?=some (b[k]'(by omega)):=List.getElem?_eq_getElem (by omega)
      obtain ⟨A,cap,hA,c0,c1,c2,c3⟩:=hv.get hx
      obtain ⟨B,cap',hB,d0,d1,d2,d3⟩:=hw.get hy
      have c:=hg _ (List.mem_of_getElem? hx) _ (List.mem_of_getElem? hy) _ _ hA hB
      generalize a[k]=x at *
      generalize (b[k]'(by omega))=y at *
      simp only [Pd.cs] at c
      by_cases hq:Pd.same x y=true
      · rw [hq] at c
        (repeat' (first|(with_reducible first|(refine hK _ _ ?_;clear hK K)|(refine hA ?_;clear hA hB A B)|(refine hB ?_;clear hA hB A B))|((with_reducible refine z25 ?_);intro K hK;(conv=>whnf))|(with_reducible refine z0 ?_)|((first|((with_reducible refine NV.i64 ?s ?_);case s=>omega)|with_reducible refine NIf.not_ ?_|((with_reducible refine NIf.decY ?s ?_);case s=>omega)|((with_reducible refine NIf.yes ?s ?_);case s=>rfl)|(with_reducible first|refine NN.cast ?_|refine NN.keep ?_)|((with_reducible refine NH.mk ?s ?_);case s=>(and_intros<;>first|with_reducible rfl|((with_reducible refine gOnes ?_);rfl)|((with_reducible refine gLen ?_);rfl)|omega))|((with_reducible refine NCall.isF g ?_);refine NCall.subE [0] (c) rfl (by decide) rfl rfl ?_)|(with_reducible refine NLd.of (by with_reducible assumption) ?_))<;>(conv=>whnf))|(with_reducible first|refine z3 ?_|refine z4 ?_|refine z5 ?_|refine z6 ?_)|((with_reducible refine z29 ?_);intro A B hA hB;(conv=>whnf))|(with_reducible first|refine z1 ?_|refine z2 ?_|refine z9 ?_)|((intro _;skip)<;>(conv=>whnf))))
        refine st_round (k+1) ⟨hlt,fun j x' y' hj h1 h2=>?_⟩ (by omega) ?_ (MemFits.pre 1 rfl)
        · by_cases e:j=k
          · subst e
            rw [hx] at h1
            rw [hy] at h2
            injection h1 with h1
            injection h2 with h2
            rw [← h1,← h2];exact hq
          · exact hgone j x' y' (by omega) h1 h2
        · repeat (first|exact FitsSl.nil|refine FitsSl.any ?_|refine FitsSl.cons (Fit1.int (by first | rfl | omega)) ?_|refine FitsSl.cons (Fit1.bool rfl) ?_|refine FitsSl.cons (Fit1.same (by intro h;cases h) (by with_reducible rfl)) ?_)
      · have hqf:Pd.same x y=false:=by simpa using hq
        rw [hqf] at c
        have hne:Pd.sameL a b=false:=by
          cases h:Pd.sameL a b with
          | false=>rfl
          | true=>exact (hq ((hs.1 h).2 k x y hx hy)).elim
        rw [hne]
        (repeat' (first|(with_reducible first|(refine hK _ _ ?_;clear hK K)|(refine hA ?_;clear hA hB A B)|(refine hK _ ?_;clear hK K))|((with_reducible refine z25 ?_);intro K hK;(conv=>whnf))|(with_reducible refine z0 ?_)|((first|with_reducible refine NIf.not_ ?_|((with_reducible refine NIf.decY ?s ?_);case s=>omega)|((with_reducible refine NIf.no ?s ?_);case s=>rfl)|(with_reducible first|refine NN.cast ?_|refine NN.keep ?_)|((with_reducible refine NH.mk ?s ?_);case s=>(and_intros<;>first|with_reducible rfl|((with_reducible refine gOnes ?_);rfl)|((with_reducible refine gLen ?_);rfl)|omega))|((with_reducible refine NCall.isF g ?_);refine NCall.subE [0] (c) rfl (by decide) rfl rfl ?_)|(with_reducible refine NLd.of (by with_reducible assumption) ?_))<;>(conv=>whnf))|(with_reducible first|refine z3 ?_|refine z4 ?_|refine z5 ?_|refine z6 ?_|refine z8 ?_)|((with_reducible refine z29 ?_);intro A B hA hB;(conv=>whnf))|(with_reducible first|refine z1 ?_|refine z2 ?_|refine z12 ?_|refine z13 ?_|refine z20 ?_)|((with_reducible refine gR ?_);(refine z31 rfl ?_;intro K hK;(conv=>whnf)))|((intro _;skip)<;>(conv=>whnf))))
        all_goals exact ⟨rfl,MemFits.pre 1 rfl⟩
    · have hy:Pd.sameL a b=true:=hs.2 ⟨hl,fun j x y h1 h2=>hgone j x y (by have:=(List.getElem?_eq_some_iff.1 h1).1;omega) h1 h2⟩
      rw [hy]
      (repeat' (first|(with_reducible first|(refine hK _ _ ?_;clear hK K)|(refine hB ?_;clear hA hB A B)|(refine hK _ ?_;clear hK K))|((with_reducible refine z25 ?_);intro K hK;(conv=>whnf))|(with_reducible refine z0 ?_)|(((with_reducible refine NIf.decN ?s ?_);case s=>omega)<;>(conv=>whnf))|(with_reducible first|refine z3 ?_|refine z4 ?_|refine z7 ?_|refine z8 ?_)|((with_reducible refine z29 ?_);intro A B hA hB;(conv=>whnf))|(with_reducible first|refine z1 ?_|refine z2 ?_|refine z10 ?_|refine z11 ?_|refine z19 ?_)|((with_reducible refine gR ?_);(refine z31 rfl ?_;intro K hK;(conv=>whnf)))))
      all_goals exact ⟨rfl,MemFits.pre 1 rfl⟩
  · have hne:Pd.sameL a b=false:=by
      cases h:Pd.sameL a b with
      | false=>rfl
      | true=>exact (hl (hs.1 h).1).elim
    rw [hne]
    (repeat' (first|(with_reducible first|(refine hK _ _ ?_;clear hK K)|(refine hA ?_;clear hA hB A B)|(refine hK _ ?_;clear hK K))|((with_reducible refine z25 ?_);intro K hK;(conv=>whnf))|(with_reducible refine z0 ?_)|((first|with_reducible refine NIf.not_ ?_|((with_reducible refine NIf.decN ?s ?_);case s=>omega)|((with_reducible refine NH.mk ?s ?_);case s=>(and_intros<;>omega)))<;>(conv=>whnf))|(with_reducible first|refine z3 ?_|refine z4 ?_|refine z8 ?_)|((with_reducible refine z29 ?_);intro A B hA hB;(conv=>whnf))|(with_reducible first|refine z1 ?_|refine z2 ?_|refine z12 ?_)|((with_reducible refine gR ?_);(refine z31 rfl ?_;intro K hK;(conv=>whnf)))|((with_reducible refine gF ?_);(refine z33 rfl ?_;intro K hK;(conv=>whnf)))))
    all_goals exact ⟨rfl,MemFits.pre 1 rfl⟩
theorem same26_c:∀ (n:Nat) (p q:Pd.T) (u w:Value),Pd.size p≤n→Pd.size p≤4611686018427387904→Pd.size q≤4611686018427387904→Pd.Row F u p.l→Pd.Row F w q.l →
    NCall Tryd.prog 49 [.agg (Pd.cs p u),.agg (Pd.cs q w)] [hpB F] fun r m=>r = .bool (Pd.same p q)∧m=[hpB F]
  | 0,p,q,u,w,hn,_,_,_,_=>absurd (Pd.size_pos p) (by omega)
  | n+1,⟨k,f,v,l⟩,⟨k',f',v',l'⟩,u,w,hn,hs,hs',hu,hw=>by
    refine NCall.fits (K:=fun r m=>r = .bool (Pd.same (.mk k f v l) (.mk k' f' v' l'))∧MemFits m [hpB F]) ?_ fun r m' h=>⟨r,_,rfl,h.2,h.1,rfl⟩
    have hu:Pd.Row F u l:=hu
    have hw:Pd.Row F w l':=hw
    have e:Pd.same (.mk k f v l) (.mk k' f' v' l')=(decide (k=k')&&decide (f=f')&&decide (v=v')&&Pd.sameL l l'):=by rw [Pd.same]
    have e2:Pd.size (.mk k f v l)=1+Pd.sizeL l:=by rw [Pd.size]
    have e3:Pd.size (.mk k' f' v' l')=1+Pd.sizeL l':=by rw [Pd.size]
    have hll:=Pd.length_le l
    have hll':=Pd.length_le l'
    have ce:=equal26_c F u w l l' hu hw (by omega) (by omega) 49 fun x hx y hy A B hA hB=>same26_c n x y A B (by have:=Pd.size_lt (k:=k) (f:=f) (v:=v) hx;omega) (by have:=Pd.size_lt (k:=k) (f:=f) (v:=v) hx;omega) (by have:=Pd.size_lt (k:=k') (f:=f') (v:=v') hy;omega) hA hB
    rw [e]
    generalize Pd.sameL l l'=sb at *
    refine ncall_of Tryd.func49 rfl (by decide) ?_
    rw [pd_cs,pd_cs]
    by_cases h1:k=k'
    · by_cases h2:f=f'
      · by_cases h3:v=v'
        · subst h1 h2 h3
          (repeat' (first|(with_reducible first|(refine hK _ _ ?_;clear hK K)|(refine hK _ ?_;clear hK K))|((with_reducible first|refine z25 ?_|refine z26 ?_);intro K hK;(conv=>whnf))|(with_reducible refine z0 ?_)|((first|((with_reducible refine NIf.yes ?s ?_);case s=>(simp ;done))|(with_reducible refine NN.a5 ?_)|((with_reducible refine NH.mk ?s ?_);case s=>(and_intros<;>with_reducible rfl))|((with_reducible refine NCall.isF 77 ?_);refine NCall.subE [0] (ce) rfl (by decide) rfl rfl ?_))<;>(conv=>whnf))|(with_reducible first|refine z3 ?_|refine z4 ?_|refine z8 ?_|refine z1 ?_|refine z2 ?_)|((with_reducible refine gR ?_);(refine z31 rfl ?_;intro K hK;(conv=>whnf)))|((with_reducible refine gF ?_);(refine z33 rfl ?_;intro K hK;(conv=>whnf)))|((intro _;skip)<;>(conv=>whnf))))
          all_goals exact ⟨by simp,MemFits.pre 1 rfl⟩
        · subst h1 h2
          (repeat' (first|(with_reducible first|(refine hK _ _ ?_;clear hK K)|(refine hK _ ?_;clear hK K))|((with_reducible first|refine z25 ?_|refine z26 ?_);intro K hK;(conv=>whnf))|(with_reducible refine z0 ?_)|((first|((with_reducible refine NIf.yes ?s ?_);case s=>(simp [h3];done))|((with_reducible refine NIf.no ?s ?_);case s=>(simp [h3];done))|(with_reducible refine NN.a5 ?_)|((with_reducible refine NH.mk ?s ?_);case s=>(and_intros<;>with_reducible rfl)))<;>(conv=>whnf))|(with_reducible first|refine z3 ?_|refine z4 ?_|refine z8 ?_|refine z1 ?_|refine z2 ?_)|((with_reducible refine gR ?_);(refine z31 rfl ?_;intro K hK;(conv=>whnf)))|((with_reducible refine gF ?_);(refine z33 rfl ?_;intro K hK;(conv=>whnf)))|((intro _;skip)<;>(conv=>whnf))))
          all_goals exact ⟨by simp [h3],MemFits.pre 1 rfl⟩
      · subst h1
        (repeat' (first|(with_reducible first|(refine hK _ _ ?_;clear hK K)|(refine hK _ ?_;clear hK K))|((with_reducible first|refine z25 ?_|refine z26 ?_);intro K hK;(conv=>whnf))|(with_reducible refine z0 ?_)|((first|((with_reducible refine NIf.yes ?s ?_);case s=>(simp [h2];done))|((with_reducible refine NIf.no ?s ?_);case s=>(simp [h2];done))|(with_reducible refine NN.a5 ?_)|((with_reducible refine NH.mk ?s ?_);case s=>(and_intros<;>with_reducible rfl)))<;>(conv=>whnf))|(with_reducible first|refine z3 ?_|refine z4 ?_|refine z8 ?_|refine z1 ?_|refine z2 ?_)|((with_reducible refine gR ?_);(refine z31 rfl ?_;intro K hK;(conv=>whnf)))|((with_reducible refine gF ?_);(refine z33 rfl ?_;intro K hK;(conv=>whnf)))|((intro _;skip)<;>(conv=>whnf))))
        all_goals exact ⟨by simp [h2],MemFits.pre 1 rfl⟩
    · (repeat' (first|(with_reducible first|(refine hK _ _ ?_;clear hK K)|(refine hK _ ?_;clear hK K))|((with_reducible first|refine z25 ?_|refine z26 ?_);intro K hK;(conv=>whnf))|(with_reducible refine z0 ?_)|((first|((with_reducible refine NIf.decN ?s ?_);case s=>assumption)|((with_reducible refine NIf.no ?s ?_);case s=>rfl)|(with_reducible refine NN.a5 ?_)|((with_reducible refine NH.mk ?s ?_);case s=>(and_intros<;>with_reducible rfl)))<;>(conv=>whnf))|(with_reducible first|refine z3 ?_|refine z4 ?_|refine z8 ?_|refine z1 ?_|refine z2 ?_)|((with_reducible refine gR ?_);(refine z31 rfl ?_;intro K hK;(conv=>whnf)))|((with_reducible refine gF ?_);(refine z33 rfl ?_;intro K hK;(conv=>whnf)))|((intro _;skip)<;>(conv=>whnf))))
      all_goals exact ⟨by simp [h1],MemFits.pre 1 rfl⟩
end
end Go.Proofs.YtaojbkphcnailaaDoor
namespace Go.Proofs.YtaojbkphcnailaaDoor
open Go.Sx
set_option maxRecDepth 20000
set_option linter.unusedSimpArgs false
set_option linter.unusedVariables false
set_option maxHeartbeats 4000000
set_option linter.unusedVariables false
theorem pdboolF {p:Prop} {_:Decidable p} (h:¬ p):AV.bool false = .bool (decide p):=by rw [decide_eq_false h]
section
variable (F:Heap)
theorem shape26_c (k f v:Int) (l:List Pd.T) (u:Value) (hu:Pd.Row F u l):NCall Tryd.prog 129 [.agg (Pd.cs (.mk k f v l) u)] [hpB F] fun r m=>r = .bool (Pd.shape k f v l.length)∧m=[hpB F]:=by
  refine NCall.fits (K:=fun r m=>r = .bool (Pd.shape k f v l.length)∧MemFits m [hpB F]) ?_ fun r m' h=>⟨r,_,rfl,h.2,h.1,rfl⟩
  have hok:=hu.ok
  have ct:=top26_c f
  refine ncall_of Tryd.func129 rfl (by decide) ?_
  rw [pd_cs]
  unfold Pd.shape
  generalize Pd.top f=tf at *
  by_cases h3:k=3
  · subst h3
    (repeat' (first|(with_reducible first|(refine hK _ _ ?_;clear hK K)|(refine hA ?_;clear hA hB A B)|(refine hK _ ?_;clear hK K))|((with_reducible refine z25 ?_);intro K hK;(conv=>whnf))|(with_reducible refine z0 ?_)|((first|((with_reducible refine NIf.decY ?s ?_);case s=>first|with_reducible rfl|assumption)|((with_reducible refine NIf.decN ?s ?_);case s=>assumption)|((with_reducible refine NIf.no ?s ?_);case s=>rfl)|(with_reducible first|refine NIf.dec (fun _=>?_) (fun _=>?_)|refine NN.a5 ?_)|((with_reducible refine NH.mk ?s ?_);case s=>(and_intros<;>first|with_reducible rfl|((with_reducible refine gKept ?_);exact rfl)|omega|rfl))|((with_reducible refine NCall.isF 96 ?_);refine NCall.pureE (ct) ?_))<;>(conv=>whnf))|(with_reducible refine st_ordSout ?_)|((with_reducible refine gNOK ?_);(first|(refine st_ordK1 rfl (by kernel_rfl) rfl ?_;intro K hK;(conv=>whnf))|(refine st_ordK1g rfl (by kernel_rfl) rfl ?_;intro K hK;(conv=>whnf))|refine st_ordK0 rfl (by kernel_rfl) ?_|refine st_ordKA rfl rfl (by kernel_rfl) (by intro h;cases h) ?_))|((with_reducible refine gNEK ?_);(first|(refine st_eachKg rfl ?_ ?_;(intro K hK;(conv=>whnf)))|exact st_eachK0))|((with_reducible refine gX ?_);(first|refine st_orderS [] rfl rfl (by kernel_rfl) _ rfl ?_|(with_reducible first|refine z3 ?_|refine z4 ?_|refine z5 ?_|refine z8 ?_)|((with_reducible refine z29 ?_);intro A B hA hB;(conv=>whnf))))|(with_reducible first|refine z1 ?_|refine z2 ?_|refine z12 ?_|refine z13 ?_)|((with_reducible refine gR ?_);(refine z31 rfl ?_;intro K hK;(conv=>whnf)))|((with_reducible refine gF ?_);(refine z33 rfl ?_;intro K hK;(conv=>whnf)))|((intro _;skip)<;>(conv=>whnf))))
    all_goals first
      | exact ⟨pdboolF (by omega),MemFits.pre 1 rfl⟩
      | exact ⟨pdboolT (by omega),MemFits.pre 1 rfl⟩
      | (refine ⟨?_,MemFits.pre 1 rfl⟩;congr 1;apply decide_eq_decide.2;omega)
  · (repeat' (first|(with_reducible first|(refine hK _ _ ?_;clear hK K)|(refine hA ?_;clear hA hB A B)|(refine hB ?_;clear hA hB A B)|(refine hK _ ?_;clear hK K))|((with_reducible first|refine z25 ?_|refine z26 ?_);intro K hK;(conv=>whnf))|(with_reducible refine z0 ?_)|((first|((with_reducible refine NIf.decY ?s ?_);case s=>assumption)|((with_reducible refine NIf.decN ?s ?_);case s=>assumption)|((with_reducible refine NIf.no ?s ?_);case s=>rfl)|(with_reducible first|refine NIf.dec (fun _=>?_) (fun _=>?_)|refine NN.a5 ?_)|((with_reducible refine NH.mk ?s ?_);case s=>(and_intros<;>first|with_reducible rfl|omega)))<;>(conv=>whnf))|(with_reducible first|refine z3 ?_|refine z4 ?_|refine z5 ?_|refine z6 ?_|refine z8 ?_)|((with_reducible refine z29 ?_);intro A B hA hB;(conv=>whnf))|(with_reducible first|refine z1 ?_|refine z2 ?_|refine z9 ?_|refine z12 ?_|refine z13 ?_)|((with_reducible refine gR ?_);(refine z31 rfl ?_;intro K hK;(conv=>whnf)))|((with_reducible refine gF ?_);(refine z33 rfl ?_;intro K hK;(conv=>whnf)))|((intro _;skip)<;>(conv=>whnf))))
    all_goals first
      | exact ⟨pdboolF (by omega),MemFits.pre 1 rfl⟩
      | exact ⟨pdboolT (by omega),MemFits.pre 1 rfl⟩
      | (refine ⟨?_,MemFits.pre 1 rfl⟩;congr 1;apply decide_eq_decide.2;omega)
      | (exfalso;omega)
theorem index26_c (q:Pd.T→Bool) (v:Value) (l:List Pd.T) (hv:Pd.Row F v l) (hn:l.length≤4611686018427387904) (g:FuncId) (first captured:List AV)
    (hg:∀ x∈l,∀ A,Pd.Row F A x.l→NCall Tryd.prog g (first++[.agg (Pd.cs x A)]++captured) [hpB F] fun r m=>r = .bool (q x)∧m=[hpB F]) :
    NCall Tryd.prog 136 [.hs v l.length,.fn g first captured] [hpB F] fun r m=>(∃ j:Int,r = .int .i64 j∧(0≤j↔l.any q=true))∧m=[hpB F]:=by
  have hok:=hv.ok
  refine ncall_of Tryd.func136 rfl (by decide) ?_
  (repeat' (first|(with_reducible first|(refine hK _ _ ?_;clear hK K)|(refine hK _ ?_;clear hK K))|((with_reducible refine z25 ?_);intro K hK;(conv=>whnf))|(with_reducible refine z0 ?_)|(((with_reducible refine NH.mk ?s ?_);case s=>(and_intros<;>omega))<;>(conv=>whnf))|(with_reducible first|refine z3 ?_|refine z4 ?_|refine z5 ?_|refine z1 ?_|refine z2 ?_)|((with_reducible refine gF ?_);(refine z33 rfl ?_;intro K hK;(conv=>whnf)))))
  refine st_auto (α:=Nat) (fun k=>k≤l.length∧∀ (j:Nat) (x:Pd.T),j<k→l[j]?=some x→q x=false) (fun k=>[.keep,.keep,.keep,.keep,.drop,.drop,.keep,.keep,.set (.int .i64 k),.drop,.drop,.drop,.drop,.drop,.drop,.drop,.drop,.drop,.drop]) (fun _=>[]) (fun k=>l.length - k) 0 ⟨Nat.zero_le _,fun j x hj=>absurd hj (Nat.not_lt_zero _)⟩ ?_ (MemFits.eq rfl) ?_
  · repeat (first|exact FitsSl.nil|refine FitsSl.any ?_|refine FitsSl.cons (Fit1.int (by first | rfl | omega)) ?_|refine FitsSl.cons (Fit1.same (by intro h;cases h) (by with_reducible rfl)) ?_)
  (intro k ⟨hk,hgone⟩;intro K hK;(conv=>whnf);refine hK _ _ ?_;clear hK K)
  by_cases hlt:k<l.length
  · have hx:l[k]?=some l[k]:=List.getElem?_eq_getElem hlt
    obtain ⟨A,cap,hA,c0,c1,c2,c3⟩:=hv.get hx
    have hmem:=List.mem_of_getElem? hx
    have c:=hg _ hmem _ hA
    generalize l[k]=x at *
    simp only [Pd.cs] at c
    cases hq:q x with
    | false =>
      rw [hq] at c
      (repeat' (first|(with_reducible first|(refine hK _ _ ?_;clear hK K)|(refine hA ?_;clear hA hB A B)|(refine hB ?_;clear hA hB A B))|((with_reducible refine z25 ?_);intro K hK;(conv=>whnf))|(with_reducible refine z0 ?_)|((first|((with_reducible refine NV.i64 ?s ?_);case s=>omega)|((with_reducible refine NIf.decY ?s ?_);case s=>omega)|((with_reducible refine NIf.no ?s ?_);case s=>rfl)|(with_reducible first|refine NN.cast ?_|refine NN.keep ?_)|((with_reducible refine NH.mk ?s ?_);case s=>(and_intros<;>omega))|((with_reducible refine NCall.isF g ?_);refine NCall.subE [0] (c) rfl (by decide) rfl rfl ?_)|(with_reducible refine NLd.of (by with_reducible assumption) ?_))<;>(conv=>whnf))|(with_reducible first|refine z3 ?_|refine z4 ?_|refine z5 ?_|refine z6 ?_)|((with_reducible refine z29 ?_);intro A B hA hB;(conv=>whnf))|(with_reducible first|refine z1 ?_|refine z2 ?_|refine z9 ?_)))
      refine st_round (k+1) ⟨hlt,fun j y hj hy=>?_⟩ (by omega) ?_ (MemFits.eq rfl)
      · by_cases e:j=k
        · subst e
          rw [hx] at hy
          injection hy with hy
          rw [← hy];exact hq
        · exact hgone j y (by omega) hy
      · repeat (first|exact FitsSl.nil|refine FitsSl.any ?_|refine FitsSl.cons (Fit1.int (by first | rfl | omega)) ?_|refine FitsSl.cons (Fit1.same (by intro h;cases h) (by with_reducible rfl)) ?_)
    | true =>
      rw [hq] at c
      (repeat' (first|(with_reducible first|(refine hK _ _ ?_;clear hK K)|(refine hA ?_;clear hA hB A B)|(refine hK _ ?_;clear hK K))|((with_reducible refine z25 ?_);intro K hK;(conv=>whnf))|(with_reducible refine z0 ?_)|((first|((with_reducible refine NIf.decY ?s ?_);case s=>omega)|((with_reducible refine NIf.yes ?s ?_);case s=>rfl)|(with_reducible first|refine NN.cast ?_|refine NN.keep ?_)|((with_reducible refine NH.mk ?s ?_);case s=>(and_intros<;>omega))|((with_reducible refine NCall.isF g ?_);refine NCall.subE [0] (c) rfl (by decide) rfl rfl ?_)|(with_reducible refine NLd.of (by with_reducible assumption) ?_))<;>(conv=>whnf))|(with_reducible first|refine z3 ?_|refine z4 ?_|refine z5 ?_|refine z6 ?_|refine z8 ?_)|((with_reducible refine z29 ?_);intro A B hA hB;(conv=>whnf))|(with_reducible first|refine z1 ?_|refine z2 ?_|refine z12 ?_|refine z13 ?_|refine z20 ?_)|((with_reducible refine gR ?_);(refine z31 rfl ?_;intro K hK;(conv=>whnf)))))
      exact ⟨⟨_,rfl,⟨fun _=>List.any_eq_true.2 ⟨x,hmem,hq⟩,fun _=>by omega⟩⟩,rfl⟩
  · have hno:¬ l.any q=true:=fun h=>by
      obtain ⟨x,hx,hq⟩:=List.any_eq_true.1 h
      obtain ⟨j,hj,e⟩:=List.getElem_of_mem hx
      have:=hgone j x (by omega) (by rw [← e];exact List.getElem?_eq_getElem hj)
      rw [this] at hq
      cases hq
    (repeat' (first|(with_reducible first|(refine hK _ _ ?_;clear hK K)|(refine hB ?_;clear hA hB A B)|(refine hK _ ?_;clear hK K))|((with_reducible refine z25 ?_);intro K hK;(conv=>whnf))|(with_reducible refine z0 ?_)|(((with_reducible refine NIf.decN ?s ?_);case s=>omega)<;>(conv=>whnf))|(with_reducible first|refine z3 ?_|refine z4 ?_|refine z7 ?_|refine z8 ?_)|((with_reducible refine z29 ?_);intro A B hA hB;(conv=>whnf))|(with_reducible first|refine z1 ?_|refine z2 ?_|refine z10 ?_|refine z11 ?_|refine z19 ?_)|((with_reducible refine gR ?_);(refine z31 rfl ?_;intro K hK;(conv=>whnf)))))
    exact ⟨⟨_,rfl,⟨fun h=>by omega,fun h=>(hno h).elim⟩⟩,rfl⟩
theorem contains26_c (q:Pd.T→Bool) (v:Value) (l:List Pd.T) (hv:Pd.Row F v l) (hn:l.length≤4611686018427387904) (g:FuncId) (first captured:List AV)
    (hg:∀ x∈l,∀ A,Pd.Row F A x.l→NCall Tryd.prog g (first++[.agg (Pd.cs x A)]++captured) [hpB F] fun r m=>r = .bool (q x)∧m=[hpB F]) :
    NCall Tryd.prog 130 [.hs v l.length,.fn g first captured] [hpB F] fun r m=>r = .bool (l.any q)∧m=[hpB F]:=by
  have hi:=index26_c F q v l hv hn g first captured hg
  refine ncall_of Tryd.func130 rfl (by decide) ?_
  (repeat' (first|(with_reducible first|(refine hK _ _ ?_;clear hK K)|(refine hK _ ?_;clear hK K))|((with_reducible refine z25 ?_);intro K hK;(conv=>whnf))|(with_reducible refine z0 ?_)|(((with_reducible refine NCall.isF 136 ?_);refine NCall.subw [0] _ _ (hi) rfl (by decide) rfl ?_;rintro _ _ ⟨⟨j,rfl,hj⟩,rfl⟩;refine ⟨Nat.le_of_ble_eq_true rfl,_,rfl,?_⟩)<;>(conv=>whnf))|(with_reducible first|refine z3 ?_|refine z4 ?_|refine z8 ?_|refine z1 ?_|refine z2 ?_)|((with_reducible refine gR ?_);(refine z31 rfl ?_;intro K hK;(conv=>whnf)))|((with_reducible refine gF ?_);(refine z33 rfl ?_;intro K hK;(conv=>whnf)))))
  all_goals
    refine ⟨?_,rfl⟩
    congr 1
    by_cases h:0≤j
    · rw [hj.1 h];exact decide_eq_true h
    · rw [show l.any q=false by cases e:l.any q with | false=>rfl | true=>exact (h (hj.2 e)).elim];exact decide_eq_false h
end
end Go.Proofs.YtaojbkphcnailaaDoor
