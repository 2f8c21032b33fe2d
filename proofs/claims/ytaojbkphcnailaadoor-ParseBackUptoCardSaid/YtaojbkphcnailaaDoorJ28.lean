import Derived.Test.YtaojbkphcnailaaDoorJ21
import Derived.Test.YtaojbkphcnailaaDoorJ23
import Derived.Test.YtaojbkphcnailaaDoorJ27
import Derived.Test.YtaojbkphcnailaaDoorJ12
namespace Go.Proofs.YtaojbkphcnailaaDoor
open Go.Sx
set_option maxRecDepth 20000
set_option linter.unusedSimpArgs false
set_option linter.unusedVariables false
set_option maxHeartbeats 4000000
set_option linter.unusedVariables false
theorem word26_c (f:Int) (hf:0≤f∧f≤5):NCall Tryd.prog 38 [.int .i64 f] [] fun r _=>r = .str (Pd.word f):=by
  have:f=0∨f=1∨f=2∨f=3∨f=4∨f=5:=by omega
  refine ncall_of Tryd.func38 rfl (by decide) ?_
  rcases this with rfl | rfl | rfl | rfl | rfl | rfl
  all_goals (repeat' (first|(with_reducible first|(refine hK _ _ ?_;clear hK K)|(refine hK _ ?_;clear hK K))|((with_reducible refine z25 ?_);intro K hK;(conv=>whnf))|(with_reducible refine z0 ?_)|((first|(with_reducible first|refine NN.lit ?_|refine NN.a2 ?_)|((with_reducible refine NH.mk ?s ?_);case s=>(and_intros<;>first|with_reducible rfl|((with_reducible refine gLen ?_);rfl)|omega)))<;>(conv=>whnf))|(with_reducible first|refine z3 ?_|refine z4 ?_|refine z8 ?_|refine z1 ?_|refine z2 ?_)|((with_reducible refine gR ?_);(refine z31 rfl ?_;intro K hK;(conv=>whnf)))|((with_reducible refine gF ?_);(refine z33 rfl ?_;intro K hK;(conv=>whnf)))|((intro _;skip)<;>(conv=>whnf))))
  all_goals simp [Pd.word]
theorem reftext26_3 (F:Heap) (f v:Int) (u:Value) (hok:SlOk u 0) (hf:0≤f∧f≤5) (hv:0≤v∧v≤255) :
    NCall Tryd.prog 20 [.agg [.int .i64 3,.int .i64 f,.int .i64 v,.hs u 0]] [hpB F] fun r m=>r = .str (Pd.word f++([32,61,32]++Lib.itoa v))∧MemFits m [hpB F]:=by
  have ci:=digits_c v (by omega)
  have cw:=word26_c f hf
  have hln:=Lib.itoa_length_le v (by omega) (by omega)
  have hwl:=Pd.word_len f
  generalize Lib.itoa v=s at *
  generalize Pd.word f=wd at *
  refine ncall_of Tryd.func20 rfl (by decide) ?_
  (repeat' (first|(with_reducible first|(refine hK _ _ ?_;clear hK K)|(refine hA ?_;clear hA hB A B)|(refine hB ?_;clear hA hB A B)|(refine hK _ ?_;clear hK K))|((with_reducible refine z25 ?_);intro K hK;(conv=>whnf))|(with_reducible refine z0 ?_)|((first|((with_reducible refine NIf.decY ?s ?_);case s=>with_reducible rfl)|((with_reducible refine NIf.decN ?s ?_);case s=>omega)|(with_reducible refine NN.a5 ?_)|((with_reducible refine NH.mk ?s ?_);case s=>(and_intros<;>first|with_reducible rfl|((with_reducible refine gKept ?_);exact rfl)|(simp only [List.length_append,List.length_cons,List.length_nil];omega)|rfl))|((with_reducible refine NCall.isF 38 ?_);refine NCall.pureE (cw) ?_)|((with_reducible refine NCall.isF 39 ?_);refine NCall.pureE (ci) ?_)|(with_reducible refine NS.keep ?_))<;>(conv=>whnf))|(with_reducible refine st_ordSout ?_)|((with_reducible refine gNOK ?_);(first|(refine st_ordK1 rfl (by kernel_rfl) rfl ?_;intro K hK;(conv=>whnf))|refine st_ordK0 rfl (by kernel_rfl) ?_|refine st_ordKA rfl rfl (by kernel_rfl) (by intro h;cases h) ?_))|((with_reducible refine gNEK ?_);(first|(refine st_eachK ?_ ?_;(intro K hK;(conv=>whnf)))|exact st_eachK0))|((with_reducible refine gX ?_);(first|refine st_orderS [] rfl rfl (by kernel_rfl) _ rfl ?_|(with_reducible first|refine z3 ?_|refine z4 ?_|refine z6 ?_|refine z8 ?_)|((with_reducible refine z29 ?_);intro A B hA hB;(conv=>whnf))))|(with_reducible first|refine z1 ?_|refine z2 ?_|refine z12 ?_)|((with_reducible refine gR ?_);(refine z31 rfl ?_;intro K hK;(conv=>whnf)))|((with_reducible refine gF ?_);(refine z33 rfl ?_;intro K hK;(conv=>whnf)))|((intro _;skip)<;>(conv=>whnf))))
  all_goals exact ⟨by simp,MemFits.pre 1 rfl⟩
theorem reftext26_c (F:Heap):∀ (n:Nat) (p:Pd.T) (u:Value),Pd.size p≤n→Pd.size p≤1000000000→Pd.fits p=true→Pd.Row F u p.l →
    NCall Tryd.prog 20 [.agg (Pd.cs p u)] [hpB F] fun r m=>r = .str (Pd.text p)∧m=[hpB F]
  | 0,p,u,hn,_,_,_=>absurd (Pd.size_pos p) (by omega)
  | n+1,⟨k,f,v,l⟩,u,hn,hs,hf,hu=>by
    refine NCall.fits (K:=fun r m=>r = .str (Pd.text (.mk k f v l))∧MemFits m [hpB F]) ?_ fun r m' h=>⟨r,_,rfl,h.2,h.1,rfl⟩
    have hu:Pd.Row F u l:=hu
    have hok:=hu.ok
    have htl:=Pd.text_len _ hf
    obtain ⟨hsh,hfl⟩:=Pd.fits_mk hf
    have e2:=Pd.size_mk k f v l
    have hll:=Pd.length_le l
    have htop:=Pd.top_lt f
    rw [pd_cs]
    by_cases h3:k=3
    · subst h3
      have hl0:l=[]:=List.length_eq_zero_iff.1 (by omega)
      subst hl0
      have:=reftext26_3 F f v u hok (by omega) (by omega)
      rw [Pd.text]
      exact this
    by_cases h1:k=1
    · subst h1
      rw [Pd.text]
      refine ncall_of Tryd.func20 rfl (by decide) ?_
      (repeat' (first|(with_reducible first|(refine hK _ _ ?_;clear hK K)|(refine hA ?_;clear hA hB A B)|(refine hK _ ?_;clear hK K))|((with_reducible refine z25 ?_);intro K hK;(conv=>whnf))|(with_reducible refine z0 ?_)|((first|((with_reducible refine NIf.decY ?s ?_);case s=>with_reducible rfl)|(with_reducible refine NN.a5 ?_)|((with_reducible refine NH.mk ?s ?_);case s=>(and_intros<;>with_reducible rfl)))<;>(conv=>whnf))|(with_reducible first|refine z3 ?_|refine z4 ?_|refine z8 ?_)|((with_reducible refine z29 ?_);intro A B hA hB;(conv=>whnf))|(with_reducible first|refine z1 ?_|refine z2 ?_|refine z12 ?_)|((with_reducible refine gR ?_);(refine z31 rfl ?_;intro K hK;(conv=>whnf)))|((with_reducible refine gF ?_);(refine z33 rfl ?_;intro K hK;(conv=>whnf)))|((intro _;skip)<;>(conv=>whnf))))
      all_goals exact ⟨rfl,MemFits.pre 1 rfl⟩
    by_cases h2:k=2
    · subst h2
      rw [Pd.text]
      refine ncall_of Tryd.func20 rfl (by decide) ?_
      (repeat' (first|(with_reducible first|(refine hK _ _ ?_;clear hK K)|(refine hA ?_;clear hA hB A B)|(refine hB ?_;clear hA hB A B)|(refine hK _ ?_;clear hK K))|((with_reducible refine z25 ?_);intro K hK;(conv=>whnf))|(with_reducible refine z0 ?_)|((first|((with_reducible refine NIf.decY ?s ?_);case s=>with_reducible rfl)|((with_reducible refine NIf.decN ?s ?_);case s=>assumption)|(with_reducible refine NN.a5 ?_)|((with_reducible refine NH.mk ?s ?_);case s=>(and_intros<;>with_reducible rfl)))<;>(conv=>whnf))|(with_reducible first|refine z3 ?_|refine z4 ?_|refine z6 ?_|refine z8 ?_)|((with_reducible refine z29 ?_);intro A B hA hB;(conv=>whnf))|(with_reducible first|refine z1 ?_|refine z2 ?_|refine z12 ?_)|((with_reducible refine gR ?_);(refine z31 rfl ?_;intro K hK;(conv=>whnf)))|((with_reducible refine gF ?_);(refine z33 rfl ?_;intro K hK;(conv=>whnf)))|((intro _;skip)<;>(conv=>whnf))))
      all_goals exact ⟨rfl,MemFits.pre 1 rfl⟩
    have hpl:=Pd.parts_len l
    have ci:∀ x∈l,∀ A,Pd.Row F A x.l→NCall Tryd.prog 20 [.agg (Pd.cs x A)] [hpB F] fun r m=>r = .str (Pd.text x)∧m=[hpB F]:=fun x hx A hA =>
      reftext26_c F n x A (by have:=Pd.size_lt (k:=k) (f:=f) (v:=v) hx;omega) (by have:=Pd.size_lt (k:=k) (f:=f) (v:=v) hx;omega) (hfl x hx) hA
    have hT:Pd.text (.mk k f v l)=(if k=4 then [110,111,116,32] else [])++Lib.join (Pd.parts l) (Pd.sepOf k):=by
      rw [Pd.text,if_neg h1,if_neg h2,if_neg h3]
      by_cases h4:k=4
      · rw [if_pos h4,if_pos h4]
        match l,(show l.length=1 by omega) with
        | [q],_=>rw [Pd.parts,Pd.parts,Lib.join_one,Lib.join_one]
      · rw [if_neg h4,if_neg h4];rfl
    rw [hT] at htl ⊢
    rw [List.length_append] at htl
    clear hT
    have hjl:∀ i,(Lib.join (Pd.parts (l.take i)) (Pd.sepOf k)).length≤40*Pd.sizeL l:=fun i=>by
      have h1:=Pd.join_le (Pd.sepOf k) (Pd.parts (l.take i))
      have h2:=Pd.sum_le (a:=(Pd.sepOf k).length) (b:=5) (Pd.parts (l.take i)) (by unfold Pd.sepOf;split<;>decide)
      have h3:=Pd.parts_sum (l.take i) (by rw [Pd.fitsL_iff];exact fun x hx=>hfl x (List.mem_of_mem_take hx))
      have h4:=Pd.sizeL_le (l:=l) (k:=i)
      omega
    have hsp:(Pd.sepOf k).length≤5:=by unfold Pd.sepOf;split<;>decide
    have hc:k=4∧Pd.sepOf k=[32,111,114,32]∨k=5∧Pd.sepOf k=[32,97,110,100,32]∨k=6∧Pd.sepOf k=[32,111,114,32]:=by
      have:k=4∨k=5∨k=6:=by omega
      rcases this with rfl | rfl | rfl
      · exact .inl ⟨rfl,rfl⟩
      · exact .inr (.inl ⟨rfl,rfl⟩)
      · exact .inr (.inr ⟨rfl,rfl⟩)
    generalize Pd.sepOf k=sp at *
    rcases hc with ⟨rfl,rfl⟩ | ⟨rfl,rfl⟩ | ⟨rfl,rfl⟩
    · rw [if_pos rfl] at *
      refine ncall_of Tryd.func20 rfl (by decide) ?_
      (repeat' (first|(with_reducible first|(refine hK _ _ ?_;clear hK K)|(refine hB ?_;clear hA hB A B)|(refine hK _ ?_;clear hK K))|((with_reducible refine z25 ?_);intro K hK;(conv=>whnf))|(with_reducible refine z0 ?_)|((first|((with_reducible refine NIf.decN ?s ?_);case s=>first|assumption|omega)|(with_reducible refine NN.a5 ?_)|((with_reducible refine NH.mk ?s ?_);case s=>(and_intros<;>with_reducible rfl)))<;>(conv=>whnf))|(with_reducible first|refine z3 ?_|refine z4 ?_|refine z5 ?_|refine z6 ?_)|((with_reducible refine z29 ?_);intro A B hA hB;(conv=>whnf))|(with_reducible first|refine z1 ?_|refine z2 ?_)|((with_reducible refine gF ?_);(refine z33 rfl ?_;intro K hK;(conv=>whnf)))|((intro _;skip)<;>(conv=>whnf))))
      refine st_auto (α:=Nat) (fun i=>i≤l.length) (fun i=>[.keep,.keep,.keep,.keep,.set (.str (Lib.join (Pd.parts (l.take i)) [32,111,114,32])),.set (.int .i64 i),.drop,.keep,.keep,.keep,.keep,.keep,.keep,.keep,.keep,.keep,.keep,.keep,.keep,.keep,.keep,.keep,.keep,.keep,.keep,.keep,.keep,.drop,.drop,.drop,.drop,.drop,.drop,.drop,.drop,.drop,.drop,.drop,.drop,.drop,.drop,.drop,.drop,.drop,.drop,.drop,.drop,.drop,.drop,.drop,.drop,.drop,.drop,.drop,.drop,.drop,.drop,.drop,.keep,.keep,.keep,.keep,.keep,.keep]) (fun _=>[]) (fun i=>l.length - i) 0 (Nat.zero_le _) ?_ (MemFits.eq rfl) ?_
      · repeat (first|exact FitsSl.nil|refine FitsSl.any ?_|refine FitsSl.cons (Fit1.str (by  rfl)) ?_|refine FitsSl.cons (Fit1.int (by first | rfl | omega)) ?_|refine FitsSl.cons (Fit1.bool rfl) ?_|refine FitsSl.cons (Fit1.same (by intro h;cases h) (by with_reducible rfl)) ?_)
      (intro i hi;intro K hK;(conv=>whnf);refine hK _ _ ?_;clear hK K)
      by_cases hlt:i<l.length
      · have hx:l[i]?=some l[i]:=List.getElem?_eq_getElem hlt
        obtain ⟨A,cap,hA,c0,c1,c2,c3⟩:=hu.get hx
        have hxm:=List.mem_of_getElem? hx
        have c:=ci _ hxm _ hA
        have hxl:=Pd.text_len _ (hfl _ hxm)
        have hxs:=Pd.size_lt (k:=4) (f:=f) (v:=v) hxm
        obtain ⟨hxk,_⟩:=Pd.fits_mk (k:=l[i].k) (f:=l[i].f) (v:=l[i].v) (l:=l[i].l) (by rw [Pd.T.eta];exact hfl _ hxm)
        have hxk1:1≤l[i].k∧l[i].k≤6:=by omega
        clear hxk
        have hnx:=Pd.parts_take hlt
        have hpi:=Pd.parts_len (l.take i)
        rw [List.length_take,Nat.min_eq_left hi] at hpi
        have hji:=hjl i
        have hj1:i=0→Lib.join (Pd.parts (l.take (i+1))) [32,111,114,32]=Pd.innerT l[i].k (Pd.text l[i]):=fun h0=>by
          rw [hnx,List.length_eq_zero_iff.1 (by omega:(Pd.parts (l.take i)).length=0)]
          exact Lib.join_one _ _
        have hj2:i≠0→Lib.join (Pd.parts (l.take (i+1))) [32,111,114,32]=Lib.join (Pd.parts (l.take i)) [32,111,114,32]++([32,111,114,32]++Pd.innerT l[i].k (Pd.text l[i])):=fun h0=>by
          rw [hnx]
          exact Pd.join_snoc _ _ _ fun e=>by rw [e] at hpi;exact h0 hpi.symm
        clear ci hjl hnx hpi
        generalize hj3:Lib.join (Pd.parts (l.take (i+1))) [32,111,114,32]=J2 at *
        have hz0:i=0→Lib.join (Pd.parts (l.take i)) [32,111,114,32]=[]:=fun h0=>by subst h0;rfl
        generalize Lib.join (Pd.parts (l.take i)) [32,111,114,32]=J at *
        generalize Pd.text l[i]=tx at *
        generalize l[i]=x at *
        obtain ⟨xk,xf,xv,xl⟩:=x
        simp only [Pd.cs,Pd.T.k,Pd.T.f,Pd.T.v,Pd.T.l] at c c0 c1 c2 c3 hA hj1 hj2 hxk1
        by_cases h56:xk=5∨xk=6
        · rw [show Pd.innerT xk tx=40::(tx++[41]) from if_pos h56] at hj1 hj2
          by_cases h0:i=0
          · subst h0
            have g1:=hj1 rfl
            have g0:=hz0 rfl
            clear hj1 hj2 hz0
            subst g0
            (repeat' (first|(with_reducible first|(refine hK _ _ ?_;clear hK K)|(refine hA ?_;clear hA hB A B)|(refine hB ?_;clear hA hB A B))|((with_reducible refine z25 ?_);intro K hK;(conv=>whnf))|(with_reducible refine z0 ?_)|((first|((with_reducible refine NV.i64 ?s ?_);case s=>omega)|((with_reducible refine NIf.decY ?s ?_);case s=>omega)|((with_reducible refine NIf.decN ?s ?_);case s=>omega)|(with_reducible first|refine NN.cast ?_|refine NN.a5 ?_|refine NN.a6 ?_)|((with_reducible refine NH.mk ?s ?_);case s=>(and_intros<;>first|with_reducible rfl|omega|(simp only [List.length_append,List.length_cons,List.length_nil];omega)))|((with_reducible refine NCall.isF 20 ?_);refine NCall.subE [0] (c) rfl (by decide) rfl rfl ?_)|(with_reducible first|refine NS.keep ?_|refine NLd.of (by with_reducible assumption) ?_))<;>(conv=>whnf))|(with_reducible first|refine z3 ?_|refine z4 ?_|refine z5 ?_|refine z6 ?_)|((with_reducible refine z29 ?_);intro A B hA hB;(conv=>whnf))|(with_reducible first|refine z1 ?_|refine z2 ?_|refine z9 ?_)))
            all_goals first | (exfalso;omega) | skip
            all_goals refine st_round (0+1) hlt (by omega) ?_ (MemFits.eq rfl)
            all_goals rw [hj3,g1]
            all_goals repeat (first|exact FitsSl.nil|refine FitsSl.any ?_|refine FitsSl.cons (Fit1.str (by  simp)) ?_|refine FitsSl.cons (Fit1.int (by first | rfl | omega)) ?_|refine FitsSl.cons (Fit1.bool rfl) ?_|refine FitsSl.cons (Fit1.same (by intro h;cases h) (by with_reducible rfl)) ?_)
          · have hj2:=hj2 h0
            clear hj1 hz0
            (repeat' (first|(with_reducible first|(refine hK _ _ ?_;clear hK K)|(refine hA ?_;clear hA hB A B))|((with_reducible refine z25 ?_);intro K hK;(conv=>whnf))|(with_reducible refine z0 ?_)|((first|((with_reducible refine NV.i64 ?s ?_);case s=>omega)|((with_reducible refine NIf.decY ?s ?_);case s=>omega)|(with_reducible first|refine NN.cast ?_|refine NN.a5 ?_|refine NN.a6 ?_|refine NN.keep ?_)|((with_reducible refine NH.mk ?s ?_);case s=>(and_intros<;>first|with_reducible rfl|omega))|((with_reducible refine NCall.isF 20 ?_);refine NCall.subE [0] (c) rfl (by decide) rfl rfl ?_)|(with_reducible first|refine NS.keep ?_|refine NLd.of (by with_reducible assumption) ?_))<;>(conv=>whnf))|(with_reducible first|refine z3 ?_|refine z4 ?_|refine z5 ?_|refine z6 ?_)|((with_reducible refine z29 ?_);intro A B hA hB;(conv=>whnf))|(with_reducible first|refine z1 ?_|refine z2 ?_|refine z9 ?_)))
            all_goals first | (exfalso;omega) | skip
            all_goals refine st_round (i+1) hlt (by omega) ?_ (MemFits.eq rfl)
            all_goals rw [hj3,hj2]
            all_goals repeat (first|exact FitsSl.nil|refine FitsSl.any ?_|refine FitsSl.cons (Fit1.str (by  simp)) ?_|refine FitsSl.cons (Fit1.int (by first | rfl | omega)) ?_|refine FitsSl.cons (Fit1.bool rfl) ?_|refine FitsSl.cons (Fit1.str rfl) ?_|refine FitsSl.cons (Fit1.same (by intro h;cases h) (by with_reducible rfl)) ?_|refine FitsSl.cons Fit1.nil_sl ?_|refine FitsSl.cons (Fit1.hs rfl) ?_|refine FitsSl.cons (Fit1.hp rfl rfl) ?_|refine FitsSl.cons (Fit1.sl rfl) ?_|refine FitsSl.cons (Fit1.ptr rfl rfl) ?_|refine FitsSl.cons Fit1.raw ?_)
        · rw [show Pd.innerT xk tx=tx from if_neg h56] at hj1 hj2
          by_cases h0:i=0
          · subst h0
            have g1:=hj1 rfl
            have g0:=hz0 rfl
            clear hj1 hj2 hz0
            subst g0
            (repeat' (first|(with_reducible first|(refine hK _ _ ?_;clear hK K)|(refine hA ?_;clear hA hB A B)|(refine hB ?_;clear hA hB A B))|((with_reducible refine z25 ?_);intro K hK;(conv=>whnf))|(with_reducible refine z0 ?_)|((first|((with_reducible refine NV.i64 ?s ?_);case s=>omega)|((with_reducible refine NIf.decY ?s ?_);case s=>omega)|((with_reducible refine NIf.decN ?s ?_);case s=>omega)|(with_reducible first|refine NN.cast ?_|refine NN.a5 ?_|refine NN.a6 ?_)|((with_reducible refine NH.mk ?s ?_);case s=>(and_intros<;>first|with_reducible rfl|omega))|((with_reducible refine NCall.isF 20 ?_);refine NCall.subE [0] (c) rfl (by decide) rfl rfl ?_)|(with_reducible first|refine NS.keep ?_|refine NLd.of (by with_reducible assumption) ?_))<;>(conv=>whnf))|(with_reducible first|refine z3 ?_|refine z4 ?_|refine z5 ?_|refine z6 ?_)|((with_reducible refine z29 ?_);intro A B hA hB;(conv=>whnf))|(with_reducible first|refine z1 ?_|refine z2 ?_|refine z9 ?_)))
            all_goals first | (exfalso;omega) | skip
            all_goals refine st_round (0+1) hlt (by omega) ?_ (MemFits.eq rfl)
            all_goals rw [hj3,g1]
            all_goals repeat (first|exact FitsSl.nil|refine FitsSl.any ?_|refine FitsSl.cons (Fit1.str (by  simp)) ?_|refine FitsSl.cons (Fit1.int (by first | rfl | omega)) ?_|refine FitsSl.cons (Fit1.bool rfl) ?_|refine FitsSl.cons (Fit1.same (by intro h;cases h) (by with_reducible rfl)) ?_)
          · have hj2:=hj2 h0
            clear hj1 hz0
            (repeat' (first|(with_reducible first|(refine hK _ _ ?_;clear hK K)|(refine hA ?_;clear hA hB A B))|((with_reducible refine z25 ?_);intro K hK;(conv=>whnf))|(with_reducible refine z0 ?_)|((first|((with_reducible refine NV.i64 ?s ?_);case s=>omega)|((with_reducible refine NIf.decY ?s ?_);case s=>omega)|(with_reducible first|refine NN.cast ?_|refine NN.a5 ?_|refine NN.a6 ?_|refine NN.keep ?_)|((with_reducible refine NH.mk ?s ?_);case s=>(and_intros<;>first|with_reducible rfl|omega))|((with_reducible refine NCall.isF 20 ?_);refine NCall.subE [0] (c) rfl (by decide) rfl rfl ?_)|(with_reducible first|refine NS.keep ?_|refine NLd.of (by with_reducible assumption) ?_))<;>(conv=>whnf))|(with_reducible first|refine z3 ?_|refine z4 ?_|refine z5 ?_|refine z6 ?_)|((with_reducible refine z29 ?_);intro A B hA hB;(conv=>whnf))|(with_reducible first|refine z1 ?_|refine z2 ?_|refine z9 ?_)))
            all_goals first | (exfalso;omega) | skip
            all_goals refine st_round (i+1) hlt (by omega) ?_ (MemFits.eq rfl)
            all_goals rw [hj3,hj2]
            all_goals repeat (first|exact FitsSl.nil|refine FitsSl.any ?_|refine FitsSl.cons (Fit1.str (by  simp)) ?_|refine FitsSl.cons (Fit1.int (by first | rfl | omega)) ?_|refine FitsSl.cons (Fit1.bool rfl) ?_|refine FitsSl.cons (Fit1.str rfl) ?_|refine FitsSl.cons (Fit1.same (by intro h;cases h) (by with_reducible rfl)) ?_|refine FitsSl.cons Fit1.nil_sl ?_|refine FitsSl.cons (Fit1.hs rfl) ?_|refine FitsSl.cons (Fit1.hp rfl rfl) ?_|refine FitsSl.cons (Fit1.sl rfl) ?_|refine FitsSl.cons (Fit1.ptr rfl rfl) ?_|refine FitsSl.cons Fit1.raw ?_)
      · have hkl:i=l.length:=by omega
        subst hkl
        have hjl:=hjl l.length
        rw [List.take_length] at hjl ⊢
        generalize Lib.join (Pd.parts l) [32,111,114,32]=J at *
        clear ci
        (repeat' (first|(with_reducible first|(refine hK _ _ ?_;clear hK K)|(refine hA ?_;clear hA hB A B)|(refine hB ?_;clear hA hB A B)|(refine hK _ ?_;clear hK K))|((with_reducible refine z25 ?_);intro K hK;(conv=>whnf))|(with_reducible refine z0 ?_)|((first|((with_reducible refine NIf.decY ?s ?_);case s=>with_reducible rfl)|((with_reducible refine NIf.decN ?s ?_);case s=>omega)|(with_reducible refine NN.a5 ?_)|((with_reducible refine NH.mk ?s ?_);case s=>(and_intros<;>first|with_reducible rfl|omega))|(with_reducible refine NS.keep ?_))<;>(conv=>whnf))|(with_reducible first|refine z3 ?_|refine z4 ?_|refine z7 ?_|refine z8 ?_)|((with_reducible refine z29 ?_);intro A B hA hB;(conv=>whnf))|(with_reducible first|refine z1 ?_|refine z2 ?_|refine z10 ?_|refine z11 ?_|refine z12 ?_|refine z19 ?_)|((with_reducible refine gR ?_);(refine z31 rfl ?_;intro K hK;(conv=>whnf)))))
        all_goals exact ⟨rfl,MemFits.pre 1 rfl⟩
    · rw [if_neg (by decide),List.nil_append]
      refine ncall_of Tryd.func20 rfl (by decide) ?_
      (repeat' (first|(with_reducible first|(refine hK _ _ ?_;clear hK K)|(refine hA ?_;clear hA hB A B)|(refine hB ?_;clear hA hB A B)|(refine hK _ ?_;clear hK K))|((with_reducible refine z25 ?_);intro K hK;(conv=>whnf))|(with_reducible refine z0 ?_)|((first|((with_reducible refine NIf.decY ?s ?_);case s=>with_reducible rfl)|((with_reducible refine NIf.decN ?s ?_);case s=>assumption)|(with_reducible refine NN.a5 ?_)|((with_reducible refine NH.mk ?s ?_);case s=>(and_intros<;>with_reducible rfl)))<;>(conv=>whnf))|(with_reducible first|refine z3 ?_|refine z4 ?_|refine z5 ?_|refine z6 ?_)|((with_reducible refine z29 ?_);intro A B hA hB;(conv=>whnf))|(with_reducible first|refine z1 ?_|refine z2 ?_)|((with_reducible refine gF ?_);(refine z33 rfl ?_;intro K hK;(conv=>whnf)))|((intro _;skip)<;>(conv=>whnf))))
      refine st_auto (α:=Nat) (fun i=>i≤l.length) (fun i=>[.keep,.keep,.keep,.keep,.set (.str (Lib.join (Pd.parts (l.take i)) [32,97,110,100,32])),.set (.int .i64 i),.drop,.keep,.keep,.keep,.keep,.keep,.keep,.keep,.keep,.keep,.keep,.keep,.keep,.keep,.keep,.keep,.keep,.keep,.keep,.keep,.keep,.drop,.drop,.drop,.drop,.drop,.drop,.drop,.drop,.drop,.drop,.drop,.drop,.drop,.drop,.drop,.drop,.drop,.drop,.drop,.drop,.drop,.drop,.drop,.drop,.drop,.drop,.drop,.drop,.drop,.drop,.drop,.keep,.keep,.keep,.keep,.keep,.keep]) (fun _=>[]) (fun i=>l.length - i) 0 (Nat.zero_le _) ?_ (MemFits.eq rfl) ?_
      · repeat (first|exact FitsSl.nil|refine FitsSl.any ?_|refine FitsSl.cons (Fit1.str (by  rfl)) ?_|refine FitsSl.cons (Fit1.int (by first | rfl | omega)) ?_|refine FitsSl.cons (Fit1.bool rfl) ?_|refine FitsSl.cons (Fit1.same (by intro h;cases h) (by with_reducible rfl)) ?_)
      (intro i hi;intro K hK;(conv=>whnf);refine hK _ _ ?_;clear hK K)
      by_cases hlt:i<l.length
      · have hx:l[i]?=some l[i]:=List.getElem?_eq_getElem hlt
        obtain ⟨A,cap,hA,c0,c1,c2,c3⟩:=hu.get hx
        have hxm:=List.mem_of_getElem? hx
        have c:=ci _ hxm _ hA
        have hxl:=Pd.text_len _ (hfl _ hxm)
        have hxs:=Pd.size_lt (k:=5) (f:=f) (v:=v) hxm
        obtain ⟨hxk,_⟩:=Pd.fits_mk (k:=l[i].k) (f:=l[i].f) (v:=l[i].v) (l:=l[i].l) (by rw [Pd.T.eta];exact hfl _ hxm)
        have hxk1:1≤l[i].k∧l[i].k≤6:=by omega
        clear hxk
        have hnx:=Pd.parts_take hlt
        have hpi:=Pd.parts_len (l.take i)
        rw [List.length_take,Nat.min_eq_left hi] at hpi
        have hji:=hjl i
        have hj1:i=0→Lib.join (Pd.parts (l.take (i+1))) [32,97,110,100,32]=Pd.innerT l[i].k (Pd.text l[i]):=fun h0=>by
          rw [hnx,List.length_eq_zero_iff.1 (by omega:(Pd.parts (l.take i)).length=0)]
          exact Lib.join_one _ _
        have hj2:i≠0→Lib.join (Pd.parts (l.take (i+1))) [32,97,110,100,32]=Lib.join (Pd.parts (l.take i)) [32,97,110,100,32]++([32,97,110,100,32]++Pd.innerT l[i].k (Pd.text l[i])):=fun h0=>by
          rw [hnx]
          exact Pd.join_snoc _ _ _ fun e=>by rw [e] at hpi;exact h0 hpi.symm
        clear ci hjl hnx hpi
        generalize hj3:Lib.join (Pd.parts (l.take (i+1))) [32,97,110,100,32]=J2 at *
        have hz0:i=0→Lib.join (Pd.parts (l.take i)) [32,97,110,100,32]=[]:=fun h0=>by subst h0;rfl
        generalize Lib.join (Pd.parts (l.take i)) [32,97,110,100,32]=J at *
        generalize Pd.text l[i]=tx at *
        generalize l[i]=x at *
        obtain ⟨xk,xf,xv,xl⟩:=x
        simp only [Pd.cs,Pd.T.k,Pd.T.f,Pd.T.v,Pd.T.l] at c c0 c1 c2 c3 hA hj1 hj2 hxk1
        by_cases h56:xk=5∨xk=6
        · rw [show Pd.innerT xk tx=40::(tx++[41]) from if_pos h56] at hj1 hj2
          by_cases h0:i=0
          · subst h0
            have g1:=hj1 rfl
            have g0:=hz0 rfl
            clear hj1 hj2 hz0
            subst g0
            (repeat' (first|(with_reducible first|(refine hK _ _ ?_;clear hK K)|(refine hA ?_;clear hA hB A B)|(refine hB ?_;clear hA hB A B))|((with_reducible refine z25 ?_);intro K hK;(conv=>whnf))|(with_reducible refine z0 ?_)|((first|((with_reducible refine NV.i64 ?s ?_);case s=>omega)|((with_reducible refine NIf.decY ?s ?_);case s=>omega)|((with_reducible refine NIf.decN ?s ?_);case s=>omega)|(with_reducible first|refine NN.cast ?_|refine NN.a5 ?_|refine NN.a6 ?_)|((with_reducible refine NH.mk ?s ?_);case s=>(and_intros<;>first|with_reducible rfl|omega|(simp only [List.length_append,List.length_cons,List.length_nil];omega)))|((with_reducible refine NCall.isF 20 ?_);refine NCall.subE [0] (c) rfl (by decide) rfl rfl ?_)|(with_reducible first|refine NS.keep ?_|refine NLd.of (by with_reducible assumption) ?_))<;>(conv=>whnf))|(with_reducible first|refine z3 ?_|refine z4 ?_|refine z5 ?_|refine z6 ?_)|((with_reducible refine z29 ?_);intro A B hA hB;(conv=>whnf))|(with_reducible first|refine z1 ?_|refine z2 ?_|refine z9 ?_)))
            all_goals first | (exfalso;omega) | skip
            all_goals refine st_round (0+1) hlt (by omega) ?_ (MemFits.eq rfl)
            all_goals rw [hj3,g1]
            all_goals repeat (first|exact FitsSl.nil|refine FitsSl.any ?_|refine FitsSl.cons (Fit1.str (by  simp)) ?_|refine FitsSl.cons (Fit1.int (by first | rfl | omega)) ?_|refine FitsSl.cons (Fit1.bool rfl) ?_|refine FitsSl.cons (Fit1.same (by intro h;cases h) (by with_reducible rfl)) ?_)
          · have hj2:=hj2 h0
            clear hj1 hz0
            (repeat' (first|(with_reducible first|(refine hK _ _ ?_;clear hK K)|(refine hA ?_;clear hA hB A B))|((with_reducible refine z25 ?_);intro K hK;(conv=>whnf))|(with_reducible refine z0 ?_)|((first|((with_reducible refine NV.i64 ?s ?_);case s=>omega)|((with_reducible refine NIf.decY ?s ?_);case s=>omega)|(with_reducible first|refine NN.cast ?_|refine NN.a5 ?_|refine NN.a6 ?_|refine NN.keep ?_)|((with_reducible refine NH.mk ?s ?_);case s=>(and_intros<;>first|with_reducible rfl|omega|(simp only [List.length_append,List.length_cons,List.length_nil];omega)))|((with_reducible refine NCall.isF 20 ?_);refine NCall.subE [0] (c) rfl (by decide) rfl rfl ?_)|(with_reducible first|refine NS.keep ?_|refine NLd.of (by with_reducible assumption) ?_))<;>(conv=>whnf))|(with_reducible first|refine z3 ?_|refine z4 ?_|refine z5 ?_|refine z6 ?_)|((with_reducible refine z29 ?_);intro A B hA hB;(conv=>whnf))|(with_reducible first|refine z1 ?_|refine z2 ?_|refine z9 ?_)))
            all_goals first | (exfalso;omega) | skip
            all_goals refine st_round (i+1) hlt (by omega) ?_ (MemFits.eq rfl)
            all_goals rw [hj3,hj2]
            all_goals repeat (first|exact FitsSl.nil|refine FitsSl.any ?_|refine FitsSl.cons (Fit1.str (by  simp)) ?_|refine FitsSl.cons (Fit1.int (by first | rfl | omega)) ?_|refine FitsSl.cons (Fit1.bool rfl) ?_|refine FitsSl.cons (Fit1.same (by intro h;cases h) (by with_reducible rfl)) ?_)
        · rw [show Pd.innerT xk tx=tx from if_neg h56] at hj1 hj2
          by_cases h0:i=0
          · subst h0
            have g1:=hj1 rfl
            have g0:=hz0 rfl
            clear hj1 hj2 hz0
            subst g0
            (repeat' (first|(with_reducible first|(refine hK _ _ ?_;clear hK K)|(refine hA ?_;clear hA hB A B)|(refine hB ?_;clear hA hB A B))|((with_reducible refine z25 ?_);intro K hK;(conv=>whnf))|(with_reducible refine z0 ?_)|((first|((with_reducible refine NV.i64 ?s ?_);case s=>omega)|((with_reducible refine NIf.decY ?s ?_);case s=>omega)|((with_reducible refine NIf.decN ?s ?_);case s=>omega)|(with_reducible first|refine NN.cast ?_|refine NN.a5 ?_|refine NN.a6 ?_)|((with_reducible refine NH.mk ?s ?_);case s=>(and_intros<;>first|with_reducible rfl|omega))|((with_reducible refine NCall.isF 20 ?_);refine NCall.subE [0] (c) rfl (by decide) rfl rfl ?_)|(with_reducible first|refine NS.keep ?_|refine NLd.of (by with_reducible assumption) ?_))<;>(conv=>whnf))|(with_reducible first|refine z3 ?_|refine z4 ?_|refine z5 ?_|refine z6 ?_)|((with_reducible refine z29 ?_);intro A B hA hB;(conv=>whnf))|(with_reducible first|refine z1 ?_|refine z2 ?_|refine z9 ?_)))
            all_goals first | (exfalso;omega) | skip
            all_goals refine st_round (0+1) hlt (by omega) ?_ (MemFits.eq rfl)
            all_goals rw [hj3,g1]
            all_goals repeat (first|exact FitsSl.nil|refine FitsSl.any ?_|refine FitsSl.cons (Fit1.str (by  simp)) ?_|refine FitsSl.cons (Fit1.int (by first | rfl | omega)) ?_|refine FitsSl.cons (Fit1.bool rfl) ?_|refine FitsSl.cons (Fit1.same (by intro h;cases h) (by with_reducible rfl)) ?_)
          · have hj2:=hj2 h0
            clear hj1 hz0
            (repeat' (first|(with_reducible first|(refine hK _ _ ?_;clear hK K)|(refine hA ?_;clear hA hB A B)|(refine hB ?_;clear hA hB A B))|((with_reducible refine z25 ?_);intro K hK;(conv=>whnf))|(with_reducible refine z0 ?_)|((first|((with_reducible refine NV.i64 ?s ?_);case s=>omega)|((with_reducible refine NIf.decY ?s ?_);case s=>omega)|((with_reducible refine NIf.decN ?s ?_);case s=>omega)|(with_reducible first|refine NN.cast ?_|refine NN.a5 ?_|refine NN.a6 ?_|refine NN.keep ?_)|((with_reducible refine NH.mk ?s ?_);case s=>(and_intros<;>first|with_reducible rfl|omega|(simp only [List.length_append,List.length_cons,List.length_nil];omega)))|((with_reducible refine NCall.isF 20 ?_);refine NCall.subE [0] (c) rfl (by decide) rfl rfl ?_)|(with_reducible first|refine NS.keep ?_|refine NLd.of (by with_reducible assumption) ?_))<;>(conv=>whnf))|(with_reducible first|refine z3 ?_|refine z4 ?_|refine z5 ?_|refine z6 ?_)|((with_reducible refine z29 ?_);intro A B hA hB;(conv=>whnf))|(with_reducible first|refine z1 ?_|refine z2 ?_|refine z9 ?_)))
            all_goals first | (exfalso;omega) | skip
            all_goals refine st_round (i+1) hlt (by omega) ?_ (MemFits.eq rfl)
            all_goals rw [hj3,hj2]
            all_goals repeat (first|exact FitsSl.nil|refine FitsSl.any ?_|refine FitsSl.cons (Fit1.str (by  simp)) ?_|refine FitsSl.cons (Fit1.int (by first | rfl | omega)) ?_|refine FitsSl.cons (Fit1.bool rfl) ?_|refine FitsSl.cons (Fit1.same (by intro h;cases h) (by with_reducible rfl)) ?_)
      · have hkl:i=l.length:=by omega
        subst hkl
        have hjl:=hjl l.length
        rw [List.take_length] at hjl ⊢
        generalize Lib.join (Pd.parts l) [32,97,110,100,32]=J at *
        clear ci
        (repeat' (first|(with_reducible first|(refine hK _ _ ?_;clear hK K)|(refine hB ?_;clear hA hB A B)|(refine hK _ ?_;clear hK K))|((with_reducible refine z25 ?_);intro K hK;(conv=>whnf))|(with_reducible refine z0 ?_)|((first|((with_reducible refine NIf.decN ?s ?_);case s=>omega)|(with_reducible refine NN.a5 ?_)|((with_reducible refine NH.mk ?s ?_);case s=>(and_intros<;>first|with_reducible rfl|omega)))<;>(conv=>whnf))|(with_reducible first|refine z3 ?_|refine z4 ?_|refine z6 ?_|refine z7 ?_|refine z8 ?_)|((with_reducible refine z29 ?_);intro A B hA hB;(conv=>whnf))|(with_reducible first|refine z1 ?_|refine z2 ?_|refine z10 ?_|refine z11 ?_|refine z19 ?_)|((with_reducible refine gR ?_);(refine z31 rfl ?_;intro K hK;(conv=>whnf)))))
        all_goals exact ⟨rfl,MemFits.pre 1 rfl⟩
    · rw [if_neg (by decide),List.nil_append]
      refine ncall_of Tryd.func20 rfl (by decide) ?_
      (repeat' (first|(with_reducible first|(refine hK _ _ ?_;clear hK K)|(refine hB ?_;clear hA hB A B)|(refine hK _ ?_;clear hK K))|((with_reducible refine z25 ?_);intro K hK;(conv=>whnf))|(with_reducible refine z0 ?_)|((first|((with_reducible refine NIf.decN ?s ?_);case s=>first|assumption|omega)|(with_reducible refine NN.a5 ?_)|((with_reducible refine NH.mk ?s ?_);case s=>(and_intros<;>with_reducible rfl)))<;>(conv=>whnf))|(with_reducible first|refine z3 ?_|refine z4 ?_|refine z5 ?_|refine z6 ?_)|((with_reducible refine z29 ?_);intro A B hA hB;(conv=>whnf))|(with_reducible first|refine z1 ?_|refine z2 ?_)|((with_reducible refine gF ?_);(refine z33 rfl ?_;intro K hK;(conv=>whnf)))|((intro _;skip)<;>(conv=>whnf))))
      refine st_auto (α:=Nat) (fun i=>i≤l.length) (fun i=>[.keep,.keep,.keep,.keep,.set (.str (Lib.join (Pd.parts (l.take i)) [32,111,114,32])),.set (.int .i64 i),.drop,.keep,.keep,.keep,.keep,.keep,.keep,.keep,.keep,.keep,.keep,.keep,.keep,.keep,.keep,.keep,.keep,.keep,.keep,.keep,.keep,.drop,.drop,.drop,.drop,.drop,.drop,.drop,.drop,.drop,.drop,.drop,.drop,.drop,.drop,.drop,.drop,.drop,.drop,.drop,.drop,.drop,.drop,.drop,.drop,.drop,.drop,.drop,.drop,.drop,.drop,.drop,.keep,.keep,.keep,.keep,.keep,.keep]) (fun _=>[]) (fun i=>l.length - i) 0 (Nat.zero_le _) ?_ (MemFits.eq rfl) ?_
      · repeat (first|exact FitsSl.nil|refine FitsSl.any ?_|refine FitsSl.cons (Fit1.str (by  rfl)) ?_|refine FitsSl.cons (Fit1.int (by first | rfl | omega)) ?_|refine FitsSl.cons (Fit1.bool rfl) ?_|refine FitsSl.cons (Fit1.same (by intro h;cases h) (by with_reducible rfl)) ?_)
      (intro i hi;intro K hK;(conv=>whnf);refine hK _ _ ?_;clear hK K)
      by_cases hlt:i<l.length
      · have hx:l[i]?=some l[i]:=List.getElem?_eq_getElem hlt
        obtain ⟨A,cap,hA,c0,c1,c2,c3⟩:=hu.get hx
        have hxm:=List.mem_of_getElem? hx
        have c:=ci _ hxm _ hA
        have hxl:=Pd.text_len _ (hfl _ hxm)
        have hxs:=Pd.size_lt (k:=6) (f:=f) (v:=v) hxm
        obtain ⟨hxk,_⟩:=Pd.fits_mk (k:=l[i].k) (f:=l[i].f) (v:=l[i].v) (l:=l[i].l) (by rw [Pd.T.eta];exact hfl _ hxm)
        have hxk1:1≤l[i].k∧l[i].k≤6:=by omega
        clear hxk
        have hnx:=Pd.parts_take hlt
        have hpi:=Pd.parts_len (l.take i)
        rw [List.length_take,Nat.min_eq_left hi] at hpi
        have hji:=hjl i
        have hj1:i=0→Lib.join (Pd.parts (l.take (i+1))) [32,111,114,32]=Pd.innerT l[i].k (Pd.text l[i]):=fun h0=>by
          rw [hnx,List.length_eq_zero_iff.1 (by omega:(Pd.parts (l.take i)).length=0)]
          exact Lib.join_one _ _
        have hj2:i≠0→Lib.join (Pd.parts (l.take (i+1))) [32,111,114,32]=Lib.join (Pd.parts (l.take i)) [32,111,114,32]++([32,111,114,32]++Pd.innerT l[i].k (Pd.text l[i])):=fun h0=>by
          rw [hnx]
          exact Pd.join_snoc _ _ _ fun e=>by rw [e] at hpi;exact h0 hpi.symm
        clear ci hjl hnx hpi
        generalize hj3:Lib.join (Pd.parts (l.take (i+1))) [32,111,114,32]=J2 at *
        have hz0:i=0→Lib.join (Pd.parts (l.take i)) [32,111,114,32]=[]:=fun h0=>by subst h0;rfl
        generalize Lib.join (Pd.parts (l.take i)) [32,111,114,32]=J at *
        generalize Pd.text l[i]=tx at *
        generalize l[i]=x at *
        obtain ⟨xk,xf,xv,xl⟩:=x
        simp only [Pd.cs,Pd.T.k,Pd.T.f,Pd.T.v,Pd.T.l] at c c0 c1 c2 c3 hA hj1 hj2 hxk1
        by_cases h56:xk=5∨xk=6
        · rw [show Pd.innerT xk tx=40::(tx++[41]) from if_pos h56] at hj1 hj2
          by_cases h0:i=0
          · subst h0
            have g1:=hj1 rfl
            have g0:=hz0 rfl
            clear hj1 hj2 hz0
            subst g0
            (repeat' (first|(with_reducible first|(refine hK _ _ ?_;clear hK K)|(refine hA ?_;clear hA hB A B)|(refine hB ?_;clear hA hB A B))|((with_reducible refine z25 ?_);intro K hK;(conv=>whnf))|(with_reducible refine z0 ?_)|((first|((with_reducible refine NV.i64 ?s ?_);case s=>omega)|((with_reducible refine NIf.decY ?s ?_);case s=>omega)|((with_reducible refine NIf.decN ?s ?_);case s=>omega)|(with_reducible first|refine NN.cast ?_|refine NN.a5 ?_|refine NN.a6 ?_)|((with_reducible refine NH.mk ?s ?_);case s=>(and_intros<;>first|with_reducible rfl|omega|(simp only [List.length_append,List.length_cons,List.length_nil];omega)))|((with_reducible refine NCall.isF 20 ?_);refine NCall.subE [0] (c) rfl (by decide) rfl rfl ?_)|(with_reducible first|refine NS.keep ?_|refine NLd.of (by with_reducible assumption) ?_))<;>(conv=>whnf))|(with_reducible first|refine z3 ?_|refine z4 ?_|refine z5 ?_|refine z6 ?_)|((with_reducible refine z29 ?_);intro A B hA hB;(conv=>whnf))|(with_reducible first|refine z1 ?_|refine z2 ?_|refine z9 ?_)))
            all_goals first | (exfalso;omega) | skip
            all_goals refine st_round (0+1) hlt (by omega) ?_ (MemFits.eq rfl)
            all_goals rw [hj3,g1]
            all_goals repeat (first|exact FitsSl.nil|refine FitsSl.any ?_|refine FitsSl.cons (Fit1.str (by  simp)) ?_|refine FitsSl.cons (Fit1.int (by first | rfl | omega)) ?_|refine FitsSl.cons (Fit1.bool rfl) ?_|refine FitsSl.cons (Fit1.same (by intro h;cases h) (by with_reducible rfl)) ?_)
          · have hj2:=hj2 h0
            clear hj1 hz0
            (repeat' (first|(with_reducible first|(refine hK _ _ ?_;clear hK K)|(refine hA ?_;clear hA hB A B))|((with_reducible refine z25 ?_);intro K hK;(conv=>whnf))|(with_reducible refine z0 ?_)|((first|((with_reducible refine NV.i64 ?s ?_);case s=>omega)|((with_reducible refine NIf.decY ?s ?_);case s=>omega)|(with_reducible first|refine NN.cast ?_|refine NN.a5 ?_|refine NN.a6 ?_|refine NN.keep ?_)|((with_reducible refine NH.mk ?s ?_);case s=>(and_intros<;>first|with_reducible rfl|omega|(simp only [List.length_append,List.length_cons,List.length_nil];omega)))|((with_reducible refine NCall.isF 20 ?_);refine NCall.subE [0] (c) rfl (by decide) rfl rfl ?_)|(with_reducible first|refine NS.keep ?_|refine NLd.of (by with_reducible assumption) ?_))<;>(conv=>whnf))|(with_reducible first|refine z3 ?_|refine z4 ?_|refine z5 ?_|refine z6 ?_)|((with_reducible refine z29 ?_);intro A B hA hB;(conv=>whnf))|(with_reducible first|refine z1 ?_|refine z2 ?_|refine z9 ?_)))
            all_goals first | (exfalso;omega) | skip
            all_goals refine st_round (i+1) hlt (by omega) ?_ (MemFits.eq rfl)
            all_goals rw [hj3,hj2]
            all_goals repeat (first|exact FitsSl.nil|refine FitsSl.any ?_|refine FitsSl.cons (Fit1.str (by  simp)) ?_|refine FitsSl.cons (Fit1.int (by first | rfl | omega)) ?_|refine FitsSl.cons (Fit1.bool rfl) ?_|refine FitsSl.cons (Fit1.same (by intro h;cases h) (by with_reducible rfl)) ?_)
        · rw [show Pd.innerT xk tx=tx from if_neg h56] at hj1 hj2
          by_cases h0:i=0
          · subst h0
            have g1:=hj1 rfl
            have g0:=hz0 rfl
            clear hj1 hj2 hz0
            subst g0
            (repeat' (first|(with_reducible first|(refine hK _ _ ?_;clear hK K)|(refine hA ?_;clear hA hB A B)|(refine hB ?_;clear hA hB A B))|((with_reducible refine z25 ?_);intro K hK;(conv=>whnf))|(with_reducible refine z0 ?_)|((first|((with_reducible refine NV.i64 ?s ?_);case s=>omega)|((with_reducible refine NIf.decY ?s ?_);case s=>omega)|((with_reducible refine NIf.decN ?s ?_);case s=>omega)|(with_reducible first|refine NN.cast ?_|refine NN.a5 ?_|refine NN.a6 ?_)|((with_reducible refine NH.mk ?s ?_);case s=>(and_intros<;>first|with_reducible rfl|omega))|((with_reducible refine NCall.isF 20 ?_);refine NCall.subE [0] (c) rfl (by decide) rfl rfl ?_)|(with_reducible first|refine NS.keep ?_|refine NLd.of (by with_reducible assumption) ?_))<;>(conv=>whnf))|(with_reducible first|refine z3 ?_|refine z4 ?_|refine z5 ?_|refine z6 ?_)|((with_reducible refine z29 ?_);intro A B hA hB;(conv=>whnf))|(with_reducible first|refine z1 ?_|refine z2 ?_|refine z9 ?_)))
            all_goals first | (exfalso;omega) | skip
            all_goals refine st_round (0+1) hlt (by omega) ?_ (MemFits.eq rfl)
            all_goals rw [hj3,g1]
            all_goals repeat (first|exact FitsSl.nil|refine FitsSl.any ?_|refine FitsSl.cons (Fit1.str (by  simp)) ?_|refine FitsSl.cons (Fit1.int (by first | rfl | omega)) ?_|refine FitsSl.cons (Fit1.bool rfl) ?_|refine FitsSl.cons (Fit1.same (by intro h;cases h) (by with_reducible rfl)) ?_)
          · have hj2:=hj2 h0
            clear hj1 hz0
            (repeat' (first|(with_reducible first|(refine hK _ _ ?_;clear hK K)|(refine hA ?_;clear hA hB A B)|(refine hB ?_;clear hA hB A B))|((with_reducible refine z25 ?_);intro K hK;(conv=>whnf))|(with_reducible refine z0 ?_)|((first|((with_reducible refine NV.i64 ?s ?_);case s=>omega)|((with_reducible refine NIf.decY ?s ?_);case s=>omega)|((with_reducible refine NIf.decN ?s ?_);case s=>omega)|(with_reducible first|refine NN.cast ?_|refine NN.a5 ?_|refine NN.a6 ?_|refine NN.keep ?_)|((with_reducible refine NH.mk ?s ?_);case s=>(and_intros<;>first|with_reducible rfl|omega|(simp only [List.length_append,List.length_cons,List.length_nil];omega)))|((with_reducible refine NCall.isF 20 ?_);refine NCall.subE [0] (c) rfl (by decide) rfl rfl ?_)|(with_reducible first|refine NS.keep ?_|refine NLd.of (by with_reducible assumption) ?_))<;>(conv=>whnf))|(with_reducible first|refine z3 ?_|refine z4 ?_|refine z5 ?_|refine z6 ?_)|((with_reducible refine z29 ?_);intro A B hA hB;(conv=>whnf))|(with_reducible first|refine z1 ?_|refine z2 ?_|refine z9 ?_)))
            all_goals first | (exfalso;omega) | skip
            all_goals refine st_round (i+1) hlt (by omega) ?_ (MemFits.eq rfl)
            all_goals rw [hj3,hj2]
            all_goals repeat (first|exact FitsSl.nil|refine FitsSl.any ?_|refine FitsSl.cons (Fit1.str (by  simp)) ?_|refine FitsSl.cons (Fit1.int (by first | rfl | omega)) ?_|refine FitsSl.cons (Fit1.bool rfl) ?_|refine FitsSl.cons (Fit1.same (by intro h;cases h) (by with_reducible rfl)) ?_)
      · have hkl:i=l.length:=by omega
        subst hkl
        have hjl:=hjl l.length
        rw [List.take_length] at hjl ⊢
        generalize Lib.join (Pd.parts l) [32,111,114,32]=J at *
        clear ci
        (repeat' (first|(with_reducible first|(refine hK _ _ ?_;clear hK K)|(refine hB ?_;clear hA hB A B)|(refine hK _ ?_;clear hK K))|((with_reducible refine z25 ?_);intro K hK;(conv=>whnf))|(with_reducible refine z0 ?_)|((first|((with_reducible refine NIf.decN ?s ?_);case s=>omega)|(with_reducible refine NN.a5 ?_)|((with_reducible refine NH.mk ?s ?_);case s=>(and_intros<;>first|with_reducible rfl|omega)))<;>(conv=>whnf))|(with_reducible first|refine z3 ?_|refine z4 ?_|refine z6 ?_|refine z7 ?_|refine z8 ?_)|((with_reducible refine z29 ?_);intro A B hA hB;(conv=>whnf))|(with_reducible first|refine z1 ?_|refine z2 ?_|refine z10 ?_|refine z11 ?_|refine z19 ?_)|((with_reducible refine gR ?_);(refine z31 rfl ?_;intro K hK;(conv=>whnf)))))
        all_goals exact ⟨rfl,MemFits.pre 1 rfl⟩
end Go.Proofs.YtaojbkphcnailaaDoor
namespace Go.Proofs.YtaojbkphcnailaaDoor
open Go.Sx
set_option maxRecDepth 20000
set_option linter.unusedSimpArgs false
set_option linter.unusedVariables false
set_option maxHeartbeats 4000000
set_option linter.unusedVariables false
theorem reftext27_2 (F:Heap) (pk pf pv:Int) (pl:List Pd.T) (f v:Int) (pu u:Value) (hok:SlOk u 0) (hpok:SlOk pu pl.length) (hf:0≤f∧f≤4) (hv:0≤v∧v≤255) :
    NCall Tryd.prog 16 [.agg [.int .i64 2,.int .i64 pk,.int .i64 pf,.int .i64 pv,.hs pu pl.length,.int .i64 f,.int .i64 v,.hs u 0]] [hpB F] fun r m=>r = .str (Pd.word f++([32,58,61,32]++Lib.itoa v))∧MemFits m [hpB F]:=by
  have ci:=digits_c v (by omega)
  have cw:=word26_c f (by omega)
  have hln:=Lib.itoa_length_le v (by omega) (by omega)
  have hwl:=Pd.word_len f
  generalize Lib.itoa v=s at *
  generalize Pd.word f=wd at *
  refine ncall_of Tryd.func16 rfl (by decide) ?_
  (repeat' (first|(with_reducible first|(refine hK _ _ ?_;clear hK K)|(refine hA ?_;clear hA hB A B)|(refine hB ?_;clear hA hB A B)|(refine hK _ ?_;clear hK K))|((with_reducible first|refine z25 ?_|refine z26 ?_);intro K hK;(conv=>whnf))|(with_reducible refine z0 ?_)|((first|((with_reducible refine NIf.yes ?s ?_);case s=>(simp ;done))|((with_reducible refine NIf.no ?s ?_);case s=>(simp ;done))|(with_reducible refine NN.a5 ?_)|((with_reducible refine NH.mk ?s ?_);case s=>(and_intros<;>first|with_reducible rfl|((with_reducible refine gKept ?_);exact rfl)|(simp only [List.length_append,List.length_cons,List.length_nil];omega)|rfl))|((with_reducible refine NCall.isF 38 ?_);refine NCall.pureE (cw) ?_)|((with_reducible refine NCall.isF 39 ?_);refine NCall.pureE (ci) ?_)|(with_reducible refine NS.keep ?_))<;>(conv=>whnf))|(with_reducible refine st_ordSout ?_)|((with_reducible refine gNOK ?_);(first|(refine st_ordK1 rfl (by kernel_rfl) rfl ?_;intro K hK;(conv=>whnf))|refine st_ordK0 rfl (by kernel_rfl) ?_|refine st_ordKA rfl rfl (by kernel_rfl) (by intro h;cases h) ?_))|((with_reducible refine gNEK ?_);(first|(refine st_eachK ?_ ?_;(intro K hK;(conv=>whnf)))|exact st_eachK0))|((with_reducible refine gX ?_);(first|refine st_orderS [] rfl rfl (by kernel_rfl) _ rfl ?_|(with_reducible first|refine z3 ?_|refine z4 ?_|refine z6 ?_|refine z8 ?_)|((with_reducible refine z29 ?_);intro A B hA hB;(conv=>whnf))))|(with_reducible first|refine z1 ?_|refine z2 ?_|refine z12 ?_)|((with_reducible refine gR ?_);(refine z31 rfl ?_;intro K hK;(conv=>whnf)))|((with_reducible refine gF ?_);(refine z33 rfl ?_;intro K hK;(conv=>whnf)))|((intro _;skip)<;>(conv=>whnf))))
  all_goals exact ⟨by simp,MemFits.pre 1 rfl⟩
theorem reftext27_1 (F:Heap) (p:Pd.T) (f v:Int) (pu u:Value) (hs:Pd.size p≤1000000000) (hf:Pd.fits p=true) (hok:SlOk u 0) (hpu:Pd.Row F pu p.l) :
    NCall Tryd.prog 16 [.agg (Po.cs (.mk 1 p f v []) pu u)] [hpB F] fun r m=>r = .str (Po.filterT p)∧MemFits m [hpB F]:=by
  have ct:=reftext26_c F _ p pu (Nat.le_refl _) hs hf hpu
  have hl:=Pd.text_len p hf
  have hpok:=hpu.ok
  have h16:=(Pd.fits_mk (k:=p.k) (f:=p.f) (v:=p.v) (l:=p.l) (by rw [Pd.T.eta];exact hf)).1
  have h16:1≤p.k∧p.k≤6:=by omega
  have hT:p.k≠1→p.k≠2→Po.filterT p=[119,104,101,110,32]++Pd.text p:=fun h1 h2=>(if_neg h1).trans (if_neg h2)
  have hT1:p.k=1→Po.filterT p=[105,100]:=fun h1=>if_pos h1
  have hT2:p.k≠1→p.k=2→Po.filterT p=[100,114,111,112]:=fun h1 h2=>(if_neg h1).trans (if_pos h2)
  generalize Po.filterT p=E at *
  generalize Pd.text p=t at *
  generalize Pd.size p=z at *
  clear hpu hf
  obtain ⟨pk,pf,pv,pl⟩:=p
  simp only [pd_cs,po_cs,Pd.T.k,Pd.T.f,Pd.T.v,Pd.T.l] at *
  by_cases h1:pk=1
  · have e:=hT1 h1
    clear hT hT2 hT1
    rw [e]
    subst h1
    refine ncall_of Tryd.func16 rfl (by decide) ?_
    (repeat' (first|(with_reducible first|(refine hK _ _ ?_;clear hK K)|(refine hA ?_;clear hA hB A B)|(refine hK _ ?_;clear hK K))|((with_reducible first|refine z25 ?_|refine z26 ?_);intro K hK;(conv=>whnf))|(with_reducible refine z0 ?_)|((first|((with_reducible refine NIf.yes ?s ?_);case s=>(simp ;done))|(with_reducible first|refine NN.a5 ?_|refine NN.a6 ?_)|((with_reducible refine NH.mk ?s ?_);case s=>(and_intros<;>with_reducible rfl)))<;>(conv=>whnf))|(with_reducible first|refine z3 ?_|refine z4 ?_|refine z8 ?_)|((with_reducible refine z29 ?_);intro A B hA hB;(conv=>whnf))|(with_reducible first|refine z1 ?_|refine z2 ?_|refine z12 ?_)|((with_reducible refine gR ?_);(refine z31 rfl ?_;intro K hK;(conv=>whnf)))|((with_reducible refine gF ?_);(refine z33 rfl ?_;intro K hK;(conv=>whnf)))|((intro _;skip)<;>(conv=>whnf))))
    all_goals exact ⟨rfl,MemFits.pre 1 rfl⟩
  by_cases h2:pk=2
  · have e:=hT2 h1 h2
    clear hT hT2 hT1
    rw [e]
    subst h2
    refine ncall_of Tryd.func16 rfl (by decide) ?_
    (repeat' (first|(with_reducible first|(refine hK _ _ ?_;clear hK K)|(refine hA ?_;clear hA hB A B)|(refine hB ?_;clear hA hB A B)|(refine hK _ ?_;clear hK K))|((with_reducible first|refine z25 ?_|refine z26 ?_);intro K hK;(conv=>whnf))|(with_reducible refine z0 ?_)|((first|((with_reducible refine NIf.yes ?s ?_);case s=>(simp ;done))|((with_reducible refine NIf.no ?s ?_);case s=>(simp ;done))|(with_reducible first|refine NN.a5 ?_|refine NN.a6 ?_)|((with_reducible refine NH.mk ?s ?_);case s=>(and_intros<;>with_reducible rfl)))<;>(conv=>whnf))|(with_reducible first|refine z3 ?_|refine z4 ?_|refine z6 ?_|refine z8 ?_)|((with_reducible refine z29 ?_);intro A B hA hB;(conv=>whnf))|(with_reducible first|refine z1 ?_|refine z2 ?_|refine z12 ?_)|((with_reducible refine gR ?_);(refine z31 rfl ?_;intro K hK;(conv=>whnf)))|((with_reducible refine gF ?_);(refine z33 rfl ?_;intro K hK;(conv=>whnf)))|((intro _;skip)<;>(conv=>whnf))))
    all_goals exact ⟨rfl,MemFits.pre 1 rfl⟩
  have e:=hT h1 h2
  clear hT hT1 hT2
  rw [e]
  refine ncall_of Tryd.func16 rfl (by decide) ?_
  (repeat' (first|(with_reducible first|(refine hK _ _ ?_;clear hK K)|(refine hA ?_;clear hA hB A B)|(refine hB ?_;clear hA hB A B)|(refine hK _ ?_;clear hK K))|((with_reducible first|refine z25 ?_|refine z26 ?_);intro K hK;(conv=>whnf))|(with_reducible refine z0 ?_)|((first|((with_reducible refine NIf.yes ?s ?_);case s=>(simp [h1,h2];done))|((with_reducible refine NIf.no ?s ?_);case s=>(simp [h1,h2];done))|(with_reducible first|refine NN.a5 ?_|refine NN.a6 ?_)|((with_reducible refine NH.mk ?s ?_);case s=>(and_intros<;>first|with_reducible rfl|(simp only [List.length_append,List.length_cons,List.length_nil];omega)))|((with_reducible refine NCall.isF 20 ?_);refine NCall.subE [0] (ct) rfl (by decide) rfl rfl ?_)|(with_reducible refine NS.keep ?_))<;>(conv=>whnf))|(with_reducible first|refine z3 ?_|refine z4 ?_|refine z6 ?_|refine z8 ?_)|((with_reducible refine z29 ?_);intro A B hA hB;(conv=>whnf))|(with_reducible first|refine z1 ?_|refine z2 ?_|refine z12 ?_)|((with_reducible refine gR ?_);(refine z31 rfl ?_;intro K hK;(conv=>whnf)))|((with_reducible refine gF ?_);(refine z33 rfl ?_;intro K hK;(conv=>whnf)))|((intro _;skip)<;>(conv=>whnf))))
  all_goals exact ⟨rfl,MemFits.pre 1 rfl⟩
theorem reftext27_3 (F:Heap) (p:Pd.T) (f v:Int) (l:List Po.T) (pu u:Value) (hpu:Pd.Row F pu p.l) (hu:Po.Row F u l) (hl8:l.length≤8) (hfl:∀ y∈l,Po.fits y=true) (hs:Po.totL l≤1000000000)
    (ci:∀ x∈l,∀ pA A,Po.At F x pA A→NCall Tryd.prog 16 [.agg (Po.cs x pA A)] [hpB F] fun r m=>r = .str (Po.text x)∧m=[hpB F]) :
    NCall Tryd.prog 16 [.agg (Po.cs (.mk 3 p f v l) pu u)] [hpB F] fun r m=>r = .str (([]:List UInt8)++Lib.join (Po.parts l) [59,32])∧MemFits m [hpB F]:=by
  have hok:=hu.ok
  have hpok:=hpu.ok
  have hjl:∀ i,(Lib.join (Po.parts (l.take i)) [59,32]).length≤40*Po.totL l:=fun i=>by
    have h1:=Pd.join_le [59,32] (Po.parts (l.take i))
    have h2:=Pd.sum_le (a:=([59,32]:List UInt8).length) (b:=6) (Po.parts (l.take i)) (by decide)
    have h3:=Po.parts_sum (l.take i) fun x hx=>hfl x (List.mem_of_mem_take hx)
    have h4:=Po.totL_le (l:=l) (k:=i)
    omega
  clear hpu
  obtain ⟨pk,pf,pv,pl⟩:=p
  simp only [pd_cs,po_cs,Pd.T.k,Pd.T.f,Pd.T.v,Pd.T.l] at *
  have eL:Lib.join (Po.parts l) [59,32]=Lib.join (Po.parts (l.take l.length)) [59,32]:=by rw [List.take_length]
  rw [eL]
  clear eL
  obtain ⟨hd,hH⟩:∃ hd:List UInt8,hd=([]:List UInt8):=⟨_,rfl⟩
  have hhd:hd.length≤200000000000:=by rw [hH];simp
  have eH:∀ z:List UInt8,([]:List UInt8)++z=hd++z:=fun z=>by rw [hH]
  rw [eH]
  clear eH
  refine ncall_of Tryd.func16 rfl (by decide) ?_
  (repeat' (first|(with_reducible first|(refine hK _ _ ?_;clear hK K)|(refine hB ?_;clear hA hB A B)|(refine hK _ ?_;clear hK K))|((with_reducible first|refine z25 ?_|refine z26 ?_);intro K hK;(conv=>whnf))|(with_reducible refine z0 ?_)|((first|((with_reducible refine NIf.no ?s ?_);case s=>(simp ;done))|(with_reducible refine NN.a5 ?_)|((with_reducible refine NH.mk ?s ?_);case s=>(and_intros<;>with_reducible rfl)))<;>(conv=>whnf))|(with_reducible first|refine z3 ?_|refine z4 ?_|refine z5 ?_|refine z6 ?_)|((with_reducible refine z29 ?_);intro A B hA hB;(conv=>whnf))|(with_reducible first|refine z1 ?_|refine z2 ?_)|((with_reducible refine gF ?_);(refine z33 rfl ?_;intro K hK;(conv=>whnf)))|((intro _;skip)<;>(conv=>whnf))))
  refine st_auto (α:=Nat) (fun i=>i≤l.length) (fun i=>[.keep,.keep,.keep,.set (.str (hd++Lib.join (Po.parts (l.take i)) [59,32])),.keep,.set (.int .i64 i),.drop,.keep,.keep,.keep,.keep,.keep,.keep,.keep,.keep,.keep,.keep,.keep,.keep,.keep,.keep,.keep,.keep,.keep,.keep,.keep,.keep,.keep,.keep,.keep,.keep,.keep,.keep,.keep,.keep,.keep,.keep,.keep,.keep,.keep,.keep,.keep,.keep,.keep,.keep,.keep,.keep,.keep,.keep,.keep,.keep,.keep,.keep,.keep,.drop,.drop,.drop,.drop,.drop,.drop,.drop,.drop,.drop,.drop,.drop,.drop,.drop,.drop,.drop,.drop,.drop,.drop,.drop,.drop,.drop,.drop,.drop,.drop,.drop,.drop,.drop,.drop,.drop,.drop,.drop,.keep]) (fun _=>[]) (fun i=>l.length - i) 0 (Nat.zero_le _) ?_ (MemFits.eq rfl) ?_
  · rw [hH]
    repeat (first|exact FitsSl.nil|refine FitsSl.any ?_|refine FitsSl.cons (Fit1.str (by  simp [Po.parts,Lib.join])) ?_|refine FitsSl.cons (Fit1.int (by first | rfl | omega)) ?_|refine FitsSl.cons (Fit1.bool rfl) ?_|refine FitsSl.cons (Fit1.same (by intro h;cases h) (by with_reducible rfl)) ?_)
  (intro i hi;intro K hK;(conv=>whnf);refine hK _ _ ?_;clear hK K)
  by_cases hlt:i<l.length
  · have hx:l[i]?=some l[i]:=List.getElem?_eq_getElem hlt
    obtain ⟨pA,pcap,A,cap,hA,c0,c1,c2,c3,c4,c5,c6,c7⟩:=hu.get hx
    have hxm:=List.mem_of_getElem? hx
    have c:=ci _ hxm _ _ hA
    have hxl:=Po.text_len _ (hfl _ hxm)
    have hxs:Po.tot l[i]≤Po.totL l:=by have h1:=Po.totL_take hlt;have h2:=Po.totL_le (l:=l) (k:=i+1);omega
    have hxk1:1≤l[i].k∧l[i].k≤5:=by
      have h1:=(Po.fits_iff (k:=l[i].k) (p:=l[i].p) (f:=l[i].f) (v:=l[i].v) (l:=l[i].l)).1 (by rw [Po.T.eta];exact hfl _ hxm)
      have h1:=h1.1
      omega
    have hAo:=hA.l.ok
    have hAp:=hA.p.ok
    have hnx:=Po.parts_take hlt
    have hpi:=Po.parts_len (l.take i)
    rw [List.length_take,Nat.min_eq_left hi] at hpi
    have hji:=hjl i
    have hj1:i=0→Lib.join (Po.parts (l.take (i+1))) [59,32]=Po.innerT l[i].k (Po.text l[i]):=fun h0=>by
      rw [hnx,List.length_eq_zero_iff.1 (by omega:(Po.parts (l.take i)).length=0)]
      exact Lib.join_one _ _
    have hj2:i≠0→Lib.join (Po.parts (l.take (i+1))) [59,32]=Lib.join (Po.parts (l.take i)) [59,32]++([59,32]++Po.innerT l[i].k (Po.text l[i])):=fun h0=>by
      rw [hnx]
      exact Pd.join_snoc _ _ _ fun e=>by rw [e] at hpi;exact h0 hpi.symm
    clear ci hjl hnx hpi
    generalize hj3:Lib.join (Po.parts (l.take (i+1))) [59,32]=J2 at *
    have hz0:i=0→Lib.join (Po.parts (l.take i)) [59,32]=[]:=fun h0=>by subst h0;rfl
    generalize Lib.join (Po.parts (l.take i)) [59,32]=J at *
    generalize Po.text l[i]=tx at *
    generalize Po.tot l[i]=tz at *
    generalize l[i]=x at *
    obtain ⟨xk,⟨xpk,xpf,xpv,xpl⟩,xf,xv,xl⟩:=x
    simp only [Po.cs,Po.T.k,Po.T.p,Po.T.f,Po.T.v,Po.T.l,Pd.T.k,Pd.T.f,Pd.T.v,Pd.T.l] at c c0 c1 c2 c3 c4 c5 c6 c7 hAo hAp hj1 hj2 hxk1
    by_cases h12:xk=1∨xk=2
    · rw [show Po.innerT xk tx=tx from if_pos h12] at hj1 hj2
      by_cases h0:i=0
      · subst h0
        have g1:=hj1 rfl
        have g0:=hz0 rfl
        clear hj1 hj2 hz0
        subst g0
        (repeat' (first|(with_reducible first|(refine hK _ _ ?_;clear hK K)|(refine hA ?_;clear hA hB A B)|(refine hB ?_;clear hA hB A B))|((with_reducible refine z25 ?_);intro K hK;(conv=>whnf))|(with_reducible refine z0 ?_)|((first|((with_reducible refine NV.i64 ?s ?_);case s=>omega)|((with_reducible refine NIf.decY ?s ?_);case s=>omega)|((with_reducible refine NIf.decN ?s ?_);case s=>omega)|(with_reducible first|refine NN.cast ?_|refine NN.a5 ?_|refine NN.a6 ?_)|((with_reducible refine NH.mk ?s ?_);case s=>(and_intros<;>first|with_reducible rfl|omega|(simp only [List.length_append,List.length_cons,List.length_nil];omega)))|((with_reducible refine NCall.isF 16 ?_);refine NCall.subE [0] (c) rfl (by decide) rfl rfl ?_)|(with_reducible first|refine NS.keep ?_|refine NLd.of (by with_reducible assumption) ?_))<;>(conv=>whnf))|(with_reducible first|refine z3 ?_|refine z4 ?_|refine z5 ?_|refine z6 ?_)|((with_reducible refine z29 ?_);intro A B hA hB;(conv=>whnf))|(with_reducible first|refine z1 ?_|refine z2 ?_|refine z9 ?_)))
        all_goals first | (exfalso;omega) | skip
        all_goals refine st_round (0+1) hlt (by omega) ?_ (MemFits.eq rfl)
        all_goals rw [hj3,g1]
        all_goals repeat (first|exact FitsSl.nil|refine FitsSl.any ?_|refine FitsSl.cons (Fit1.str (by  simp)) ?_|refine FitsSl.cons (Fit1.int (by first | rfl | omega)) ?_|refine FitsSl.cons (Fit1.bool rfl) ?_|refine FitsSl.cons (Fit1.same (by intro h;cases h) (by with_reducible rfl)) ?_)
      · have hj2:=hj2 h0
        clear hj1 hz0
        (repeat' (first|(with_reducible first|(refine hK _ _ ?_;clear hK K)|(refine hA ?_;clear hA hB A B)|(refine hB ?_;clear hA hB A B))|((with_reducible refine z25 ?_);intro K hK;(conv=>whnf))|(with_reducible refine z0 ?_)|((first|((with_reducible refine NV.i64 ?s ?_);case s=>omega)|((with_reducible refine NIf.decY ?s ?_);case s=>omega)|((with_reducible refine NIf.decN ?s ?_);case s=>omega)|(with_reducible first|refine NN.cast ?_|refine NN.a5 ?_|refine NN.a6 ?_|refine NN.keep ?_)|((with_reducible refine NH.mk ?s ?_);case s=>(and_intros<;>first|with_reducible rfl|omega|(simp only [List.length_append,List.length_cons,List.length_nil];omega)))|((with_reducible refine NCall.isF 16 ?_);refine NCall.subE [0] (c) rfl (by decide) rfl rfl ?_)|(with_reducible first|refine NS.keep ?_|refine NLd.of (by with_reducible assumption) ?_))<;>(conv=>whnf))|(with_reducible first|refine z3 ?_|refine z4 ?_|refine z5 ?_|refine z6 ?_)|((with_reducible refine z29 ?_);intro A B hA hB;(conv=>whnf))|(with_reducible first|refine z1 ?_|refine z2 ?_|refine z9 ?_)))
        all_goals first | (exfalso;omega) | skip
        all_goals refine st_round (i+1) hlt (by omega) ?_ (MemFits.eq rfl)
        all_goals rw [hj3,hj2]
        all_goals repeat (first|exact FitsSl.nil|refine FitsSl.any ?_|refine FitsSl.cons (Fit1.str (by  simp)) ?_|refine FitsSl.cons (Fit1.int (by first | rfl | omega)) ?_|refine FitsSl.cons (Fit1.bool rfl) ?_|refine FitsSl.cons (Fit1.same (by intro h;cases h) (by with_reducible rfl)) ?_)
    · rw [show Po.innerT xk tx=40::(tx++[41]) from if_neg h12] at hj1 hj2
      by_cases h0:i=0
      · subst h0
        have g1:=hj1 rfl
        have g0:=hz0 rfl
        clear hj1 hj2 hz0
        subst g0
        (repeat' (first|(with_reducible first|(refine hK _ _ ?_;clear hK K)|(refine hA ?_;clear hA hB A B)|(refine hB ?_;clear hA hB A B))|((with_reducible refine z25 ?_);intro K hK;(conv=>whnf))|(with_reducible refine z0 ?_)|((first|((with_reducible refine NV.i64 ?s ?_);case s=>omega)|((with_reducible refine NIf.decY ?s ?_);case s=>omega)|((with_reducible refine NIf.decN ?s ?_);case s=>omega)|(with_reducible first|refine NN.cast ?_|refine NN.a5 ?_|refine NN.a6 ?_)|((with_reducible refine NH.mk ?s ?_);case s=>(and_intros<;>first|with_reducible rfl|omega|(simp only [List.length_append,List.length_cons,List.length_nil];omega)))|((with_reducible refine NCall.isF 16 ?_);refine NCall.subE [0] (c) rfl (by decide) rfl rfl ?_)|(with_reducible first|refine NS.keep ?_|refine NLd.of (by with_reducible assumption) ?_))<;>(conv=>whnf))|(with_reducible first|refine z3 ?_|refine z4 ?_|refine z5 ?_|refine z6 ?_)|((with_reducible refine z29 ?_);intro A B hA hB;(conv=>whnf))|(with_reducible first|refine z1 ?_|refine z2 ?_|refine z9 ?_)))
        all_goals first | (exfalso;omega) | skip
        all_goals refine st_round (0+1) hlt (by omega) ?_ (MemFits.eq rfl)
        all_goals rw [hj3,g1]
        all_goals repeat (first|exact FitsSl.nil|refine FitsSl.any ?_|refine FitsSl.cons (Fit1.str (by  simp)) ?_|refine FitsSl.cons (Fit1.int (by first | rfl | omega)) ?_|refine FitsSl.cons (Fit1.bool rfl) ?_|refine FitsSl.cons (Fit1.same (by intro h;cases h) (by with_reducible rfl)) ?_)
      · have hj2:=hj2 h0
        clear hj1 hz0
        (repeat' (first|(with_reducible first|(refine hK _ _ ?_;clear hK K)|(refine hA ?_;clear hA hB A B))|((with_reducible refine z25 ?_);intro K hK;(conv=>whnf))|(with_reducible refine z0 ?_)|((first|((with_reducible refine NV.i64 ?s ?_);case s=>omega)|((with_reducible refine NIf.decY ?s ?_);case s=>omega)|(with_reducible first|refine NN.cast ?_|refine NN.a5 ?_|refine NN.a6 ?_|refine NN.keep ?_)|((with_reducible refine NH.mk ?s ?_);case s=>(and_intros<;>first|with_reducible rfl|omega|(simp only [List.length_append,List.length_cons,List.length_nil];omega)))|((with_reducible refine NCall.isF 16 ?_);refine NCall.subE [0] (c) rfl (by decide) rfl rfl ?_)|(with_reducible first|refine NS.keep ?_|refine NLd.of (by with_reducible assumption) ?_))<;>(conv=>whnf))|(with_reducible first|refine z3 ?_|refine z4 ?_|refine z5 ?_|refine z6 ?_)|((with_reducible refine z29 ?_);intro A B hA hB;(conv=>whnf))|(with_reducible first|refine z1 ?_|refine z2 ?_|refine z9 ?_)))
        all_goals first | (exfalso;omega) | skip
        all_goals refine st_round (i+1) hlt (by omega) ?_ (MemFits.eq rfl)
        all_goals rw [hj3,hj2]
        all_goals repeat (first|exact FitsSl.nil|refine FitsSl.any ?_|refine FitsSl.cons (Fit1.str (by  simp)) ?_|refine FitsSl.cons (Fit1.int (by first | rfl | omega)) ?_|refine FitsSl.cons (Fit1.bool rfl) ?_|refine FitsSl.cons (Fit1.same (by intro h;cases h) (by with_reducible rfl)) ?_)
  · have hkl:i=l.length:=by omega
    subst hkl
    have hjl:=hjl l.length
    generalize Lib.join (Po.parts (l.take l.length)) [59,32]=J at *
    clear ci
    (repeat' (first|(with_reducible first|(refine hK _ _ ?_;clear hK K)|(refine hB ?_;clear hA hB A B)|(refine hK _ ?_;clear hK K))|((with_reducible refine z25 ?_);intro K hK;(conv=>whnf))|(with_reducible refine z0 ?_)|((first|((with_reducible refine NIf.decN ?s ?_);case s=>omega)|(with_reducible refine NN.a5 ?_)|((with_reducible refine NH.mk ?s ?_);case s=>(and_intros<;>first|with_reducible rfl|omega)))<;>(conv=>whnf))|(with_reducible first|refine z3 ?_|refine z4 ?_|refine z7 ?_|refine z8 ?_)|((with_reducible refine z29 ?_);intro A B hA hB;(conv=>whnf))|(with_reducible first|refine z1 ?_|refine z2 ?_|refine z10 ?_|refine z11 ?_|refine z19 ?_)|((with_reducible refine gR ?_);(refine z31 rfl ?_;intro K hK;(conv=>whnf)))))
    all_goals exact ⟨rfl,MemFits.pre 1 rfl⟩
theorem reftext27_4 (F:Heap) (p:Pd.T) (f v:Int) (l:List Po.T) (pu u:Value) (hpu:Pd.Row F pu p.l) (hu:Po.Row F u l) (hl8:l.length≤8) (hfl:∀ y∈l,Po.fits y=true) (hs:Po.totL l≤1000000000)
    (ci:∀ x∈l,∀ pA A,Po.At F x pA A→NCall Tryd.prog 16 [.agg (Po.cs x pA A)] [hpB F] fun r m=>r = .str (Po.text x)∧m=[hpB F]) :
    NCall Tryd.prog 16 [.agg (Po.cs (.mk 4 p f v l) pu u)] [hpB F] fun r m=>r = .str (([]:List UInt8)++Lib.join (Po.parts l) [32,124,32])∧MemFits m [hpB F]:=by
  have hok:=hu.ok
  have hpok:=hpu.ok
  have hjl:∀ i,(Lib.join (Po.parts (l.take i)) [32,124,32]).length≤40*Po.totL l:=fun i=>by
    have h1:=Pd.join_le [32,124,32] (Po.parts (l.take i))
    have h2:=Pd.sum_le (a:=([32,124,32]:List UInt8).length) (b:=6) (Po.parts (l.take i)) (by decide)
    have h3:=Po.parts_sum (l.take i) fun x hx=>hfl x (List.mem_of_mem_take hx)
    have h4:=Po.totL_le (l:=l) (k:=i)
    omega
  clear hpu
  obtain ⟨pk,pf,pv,pl⟩:=p
  simp only [pd_cs,po_cs,Pd.T.k,Pd.T.f,Pd.T.v,Pd.T.l] at *
  have eL:Lib.join (Po.parts l) [32,124,32]=Lib.join (Po.parts (l.take l.length)) [32,124,32]:=by rw [List.take_length]
  rw [eL]
  clear eL
  obtain ⟨hd,hH⟩:∃ hd:List UInt8,hd=([]:List UInt8):=⟨_,rfl⟩
  have hhd:hd.length≤200000000000:=by rw [hH];simp
  have eH:∀ z:List UInt8,([]:List UInt8)++z=hd++z:=fun z=>by rw [hH]
  rw [eH]
  clear eH
  refine ncall_of Tryd.func16 rfl (by decide) ?_
  (repeat' (first|(with_reducible first|(refine hK _ _ ?_;clear hK K)|(refine hA ?_;clear hA hB A B)|(refine hB ?_;clear hA hB A B)|(refine hK _ ?_;clear hK K))|((with_reducible first|refine z25 ?_|refine z26 ?_);intro K hK;(conv=>whnf))|(with_reducible refine z0 ?_)|((first|((with_reducible refine NIf.yes ?s ?_);case s=>(simp ;done))|((with_reducible refine NIf.no ?s ?_);case s=>(simp ;done))|(with_reducible refine NN.a5 ?_)|((with_reducible refine NH.mk ?s ?_);case s=>(and_intros<;>with_reducible rfl)))<;>(conv=>whnf))|(with_reducible first|refine z3 ?_|refine z4 ?_|refine z5 ?_|refine z6 ?_)|((with_reducible refine z29 ?_);intro A B hA hB;(conv=>whnf))|(with_reducible first|refine z1 ?_|refine z2 ?_)|((with_reducible refine gF ?_);(refine z33 rfl ?_;intro K hK;(conv=>whnf)))|((intro _;skip)<;>(conv=>whnf))))
  refine st_auto (α:=Nat) (fun i=>i≤l.length) (fun i=>[.keep,.keep,.keep,.set (.str (hd++Lib.join (Po.parts (l.take i)) [32,124,32])),.keep,.set (.int .i64 i),.drop,.keep,.keep,.keep,.keep,.keep,.keep,.keep,.keep,.keep,.keep,.keep,.keep,.keep,.keep,.keep,.keep,.keep,.keep,.keep,.keep,.keep,.keep,.keep,.keep,.keep,.keep,.keep,.keep,.keep,.keep,.keep,.keep,.keep,.keep,.keep,.keep,.keep,.keep,.keep,.keep,.keep,.keep,.keep,.keep,.keep,.keep,.keep,.drop,.drop,.drop,.drop,.drop,.drop,.drop,.drop,.drop,.drop,.drop,.drop,.drop,.drop,.drop,.drop,.drop,.drop,.drop,.drop,.drop,.drop,.drop,.drop,.drop,.drop,.drop,.drop,.drop,.drop,.drop,.keep]) (fun _=>[]) (fun i=>l.length - i) 0 (Nat.zero_le _) ?_ (MemFits.eq rfl) ?_
  · rw [hH]
    repeat (first|exact FitsSl.nil|refine FitsSl.any ?_|refine FitsSl.cons (Fit1.str (by  simp [Po.parts,Lib.join])) ?_|refine FitsSl.cons (Fit1.int (by first | rfl | omega)) ?_|refine FitsSl.cons (Fit1.bool rfl) ?_|refine FitsSl.cons (Fit1.same (by intro h;cases h) (by with_reducible rfl)) ?_)
  (intro i hi;intro K hK;(conv=>whnf);refine hK _ _ ?_;clear hK K)
  by_cases hlt:i<l.length
  · have hx:l[i]?=some l[i]:=List.getElem?_eq_getElem hlt
    obtain ⟨pA,pcap,A,cap,hA,c0,c1,c2,c3,c4,c5,c6,c7⟩:=hu.get hx
    have hxm:=List.mem_of_getElem? hx
    have c:=ci _ hxm _ _ hA
    have hxl:=Po.text_len _ (hfl _ hxm)
    have hxs:Po.tot l[i]≤Po.totL l:=by have h1:=Po.totL_take hlt;have h2:=Po.totL_le (l:=l) (k:=i+1);omega
    have hxk1:1≤l[i].k∧l[i].k≤5:=by
      have h1:=(Po.fits_iff (k:=l[i].k) (p:=l[i].p) (f:=l[i].f) (v:=l[i].v) (l:=l[i].l)).1 (by rw [Po.T.eta];exact hfl _ hxm)
      have h1:=h1.1
      omega
    have hAo:=hA.l.ok
    have hAp:=hA.p.ok
    have hnx:=Po.parts_take hlt
    have hpi:=Po.parts_len (l.take i)
    rw [List.length_take,Nat.min_eq_left hi] at hpi
    have hji:=hjl i
    have hj1:i=0→Lib.join (Po.parts (l.take (i+1))) [32,124,32]=Po.innerT l[i].k (Po.text l[i]):=fun h0=>by
      rw [hnx,List.length_eq_zero_iff.1 (by omega:(Po.parts (l.take i)).length=0)]
      exact Lib.join_one _ _
    have hj2:i≠0→Lib.join (Po.parts (l.take (i+1))) [32,124,32]=Lib.join (Po.parts (l.take i)) [32,124,32]++([32,124,32]++Po.innerT l[i].k (Po.text l[i])):=fun h0=>by
      rw [hnx]
      exact Pd.join_snoc _ _ _ fun e=>by rw [e] at hpi;exact h0 hpi.symm
    clear ci hjl hnx hpi
    generalize hj3:Lib.join (Po.parts (l.take (i+1))) [32,124,32]=J2 at *
    have hz0:i=0→Lib.join (Po.parts (l.take i)) [32,124,32]=[]:=fun h0=>by subst h0;rfl
    generalize Lib.join (Po.parts (l.take i)) [32,124,32]=J at *
    generalize Po.text l[i]=tx at *
    generalize Po.tot l[i]=tz at *
    generalize l[i]=x at *
    obtain ⟨xk,⟨xpk,xpf,xpv,xpl⟩,xf,xv,xl⟩:=x
    simp only [Po.cs,Po.T.k,Po.T.p,Po.T.f,Po.T.v,Po.T.l,Pd.T.k,Pd.T.f,Pd.T.v,Pd.T.l] at c c0 c1 c2 c3 c4 c5 c6 c7 hAo hAp hj1 hj2 hxk1
    by_cases h12:xk=1∨xk=2
    · rw [show Po.innerT xk tx=tx from if_pos h12] at hj1 hj2
      by_cases h0:i=0
      · subst h0
        have g1:=hj1 rfl
        have g0:=hz0 rfl
        clear hj1 hj2 hz0
        subst g0
        (repeat' (first|(with_reducible first|(refine hK _ _ ?_;clear hK K)|(refine hA ?_;clear hA hB A B)|(refine hB ?_;clear hA hB A B))|((with_reducible refine z25 ?_);intro K hK;(conv=>whnf))|(with_reducible refine z0 ?_)|((first|((with_reducible refine NV.i64 ?s ?_);case s=>omega)|((with_reducible refine NIf.decY ?s ?_);case s=>omega)|((with_reducible refine NIf.decN ?s ?_);case s=>omega)|(with_reducible first|refine NN.cast ?_|refine NN.a5 ?_|refine NN.a6 ?_)|((with_reducible refine NH.mk ?s ?_);case s=>(and_intros<;>first|with_reducible rfl|omega|(simp only [List.length_append,List.length_cons,List.length_nil];omega)))|((with_reducible refine NCall.isF 16 ?_);refine NCall.subE [0] (c) rfl (by decide) rfl rfl ?_)|(with_reducible first|refine NS.keep ?_|refine NLd.of (by with_reducible assumption) ?_))<;>(conv=>whnf))|(with_reducible first|refine z3 ?_|refine z4 ?_|refine z5 ?_|refine z6 ?_)|((with_reducible refine z29 ?_);intro A B hA hB;(conv=>whnf))|(with_reducible first|refine z1 ?_|refine z2 ?_|refine z9 ?_)))
        all_goals first | (exfalso;omega) | skip
        all_goals refine st_round (0+1) hlt (by omega) ?_ (MemFits.eq rfl)
        all_goals rw [hj3,g1]
        all_goals repeat (first|exact FitsSl.nil|refine FitsSl.any ?_|refine FitsSl.cons (Fit1.str (by  simp)) ?_|refine FitsSl.cons (Fit1.int (by first | rfl | omega)) ?_|refine FitsSl.cons (Fit1.bool rfl) ?_|refine FitsSl.cons (Fit1.same (by intro h;cases h) (by with_reducible rfl)) ?_)
      · have hj2:=hj2 h0
        clear hj1 hz0
        (repeat' (first|(with_reducible first|(refine hK _ _ ?_;clear hK K)|(refine hA ?_;clear hA hB A B)|(refine hB ?_;clear hA hB A B))|((with_reducible refine z25 ?_);intro K hK;(conv=>whnf))|(with_reducible refine z0 ?_)|((first|((with_reducible refine NV.i64 ?s ?_);case s=>omega)|((with_reducible refine NIf.decY ?s ?_);case s=>omega)|((with_reducible refine NIf.decN ?s ?_);case s=>omega)|(with_reducible first|refine NN.cast ?_|refine NN.a5 ?_|refine NN.a6 ?_|refine NN.keep ?_)|((with_reducible refine NH.mk ?s ?_);case s=>(and_intros<;>first|with_reducible rfl|omega|(simp only [List.length_append,List.length_cons,List.length_nil];omega)))|((with_reducible refine NCall.isF 16 ?_);refine NCall.subE [0] (c) rfl (by decide) rfl rfl ?_)|(with_reducible first|refine NS.keep ?_|refine NLd.of (by with_reducible assumption) ?_))<;>(conv=>whnf))|(with_reducible first|refine z3 ?_|refine z4 ?_|refine z5 ?_|refine z6 ?_)|((with_reducible refine z29 ?_);intro A B hA hB;(conv=>whnf))|(with_reducible first|refine z1 ?_|refine z2 ?_|refine z9 ?_)))
        all_goals first | (exfalso;omega) | skip
        all_goals refine st_round (i+1) hlt (by omega) ?_ (MemFits.eq rfl)
        all_goals rw [hj3,hj2]
        all_goals repeat (first|exact FitsSl.nil|refine FitsSl.any ?_|refine FitsSl.cons (Fit1.str (by  simp)) ?_|refine FitsSl.cons (Fit1.int (by first | rfl | omega)) ?_|refine FitsSl.cons (Fit1.bool rfl) ?_|refine FitsSl.cons (Fit1.same (by intro h;cases h) (by with_reducible rfl)) ?_)
    · rw [show Po.innerT xk tx=40::(tx++[41]) from if_neg h12] at hj1 hj2
      by_cases h0:i=0
      · subst h0
        have g1:=hj1 rfl
        have g0:=hz0 rfl
        clear hj1 hj2 hz0
        subst g0
        (repeat' (first|(with_reducible first|(refine hK _ _ ?_;clear hK K)|(refine hA ?_;clear hA hB A B)|(refine hB ?_;clear hA hB A B))|((with_reducible refine z25 ?_);intro K hK;(conv=>whnf))|(with_reducible refine z0 ?_)|((first|((with_reducible refine NV.i64 ?s ?_);case s=>omega)|((with_reducible refine NIf.decY ?s ?_);case s=>omega)|((with_reducible refine NIf.decN ?s ?_);case s=>omega)|(with_reducible first|refine NN.cast ?_|refine NN.a5 ?_|refine NN.a6 ?_)|((with_reducible refine NH.mk ?s ?_);case s=>(and_intros<;>first|with_reducible rfl|omega|(simp only [List.length_append,List.length_cons,List.length_nil];omega)))|((with_reducible refine NCall.isF 16 ?_);refine NCall.subE [0] (c) rfl (by decide) rfl rfl ?_)|(with_reducible first|refine NS.keep ?_|refine NLd.of (by with_reducible assumption) ?_))<;>(conv=>whnf))|(with_reducible first|refine z3 ?_|refine z4 ?_|refine z5 ?_|refine z6 ?_)|((with_reducible refine z29 ?_);intro A B hA hB;(conv=>whnf))|(with_reducible first|refine z1 ?_|refine z2 ?_|refine z9 ?_)))
        all_goals first | (exfalso;omega) | skip
        all_goals refine st_round (0+1) hlt (by omega) ?_ (MemFits.eq rfl)
        all_goals rw [hj3,g1]
        all_goals repeat (first|exact FitsSl.nil|refine FitsSl.any ?_|refine FitsSl.cons (Fit1.str (by  simp)) ?_|refine FitsSl.cons (Fit1.int (by first | rfl | omega)) ?_|refine FitsSl.cons (Fit1.bool rfl) ?_|refine FitsSl.cons (Fit1.same (by intro h;cases h) (by with_reducible rfl)) ?_)
      · have hj2:=hj2 h0
        clear hj1 hz0
        (repeat' (first|(with_reducible first|(refine hK _ _ ?_;clear hK K)|(refine hA ?_;clear hA hB A B))|((with_reducible refine z25 ?_);intro K hK;(conv=>whnf))|(with_reducible refine z0 ?_)|((first|((with_reducible refine NV.i64 ?s ?_);case s=>omega)|((with_reducible refine NIf.decY ?s ?_);case s=>omega)|(with_reducible first|refine NN.cast ?_|refine NN.a5 ?_|refine NN.a6 ?_|refine NN.keep ?_)|((with_reducible refine NH.mk ?s ?_);case s=>(and_intros<;>first|with_reducible rfl|omega|(simp only [List.length_append,List.length_cons,List.length_nil];omega)))|((with_reducible refine NCall.isF 16 ?_);refine NCall.subE [0] (c) rfl (by decide) rfl rfl ?_)|(with_reducible first|refine NS.keep ?_|refine NLd.of (by with_reducible assumption) ?_))<;>(conv=>whnf))|(with_reducible first|refine z3 ?_|refine z4 ?_|refine z5 ?_|refine z6 ?_)|((with_reducible refine z29 ?_);intro A B hA hB;(conv=>whnf))|(with_reducible first|refine z1 ?_|refine z2 ?_|refine z9 ?_)))
        all_goals first | (exfalso;omega) | skip
        all_goals refine st_round (i+1) hlt (by omega) ?_ (MemFits.eq rfl)
        all_goals rw [hj3,hj2]
        all_goals repeat (first|exact FitsSl.nil|refine FitsSl.any ?_|refine FitsSl.cons (Fit1.str (by  simp)) ?_|refine FitsSl.cons (Fit1.int (by first | rfl | omega)) ?_|refine FitsSl.cons (Fit1.bool rfl) ?_|refine FitsSl.cons (Fit1.same (by intro h;cases h) (by with_reducible rfl)) ?_)
  · have hkl:i=l.length:=by omega
    subst hkl
    have hjl:=hjl l.length
    generalize Lib.join (Po.parts (l.take l.length)) [32,124,32]=J at *
    clear ci
    (repeat' (first|(with_reducible first|(refine hK _ _ ?_;clear hK K)|(refine hB ?_;clear hA hB A B)|(refine hK _ ?_;clear hK K))|((with_reducible refine z25 ?_);intro K hK;(conv=>whnf))|(with_reducible refine z0 ?_)|((first|((with_reducible refine NIf.decN ?s ?_);case s=>omega)|(with_reducible refine NN.a5 ?_)|((with_reducible refine NH.mk ?s ?_);case s=>(and_intros<;>first|with_reducible rfl|omega)))<;>(conv=>whnf))|(with_reducible first|refine z3 ?_|refine z4 ?_|refine z7 ?_|refine z8 ?_)|((with_reducible refine z29 ?_);intro A B hA hB;(conv=>whnf))|(with_reducible first|refine z1 ?_|refine z2 ?_|refine z10 ?_|refine z11 ?_|refine z19 ?_)|((with_reducible refine gR ?_);(refine z31 rfl ?_;intro K hK;(conv=>whnf)))))
    all_goals exact ⟨rfl,MemFits.pre 1 rfl⟩
theorem reftext27_5 (F:Heap) (p:Pd.T) (f v:Int) (l:List Po.T) (pu u:Value) (hpu:Pd.Row F pu p.l) (hu:Po.Row F u l) (hl8:l.length≤8) (tp:List UInt8) (htp:tp.length≤100000000000) (cp:NCall Tryd.prog 20 [.agg (Pd.cs p pu)] [hpB F] fun r m=>r = .str tp∧m=[hpB F]) (hfl:∀ y∈l,Po.fits y=true) (hs:Po.totL l≤1000000000)
    (ci:∀ x∈l,∀ pA A,Po.At F x pA A→NCall Tryd.prog 16 [.agg (Po.cs x pA A)] [hpB F] fun r m=>r = .str (Po.text x)∧m=[hpB F]) :
    NCall Tryd.prog 16 [.agg (Po.cs (.mk 5 p f v l) pu u)] [hpB F] fun r m=>r = .str (([105,102,32]++(tp++[32,116,104,101,110,32]))++Lib.join (Po.parts l) [32,101,108,115,101,32])∧MemFits m [hpB F]:=by
  have hok:=hu.ok
  have hpok:=hpu.ok
  have hjl:∀ i,(Lib.join (Po.parts (l.take i)) [32,101,108,115,101,32]).length≤40*Po.totL l:=fun i=>by
    have h1:=Pd.join_le [32,101,108,115,101,32] (Po.parts (l.take i))
    have h2:=Pd.sum_le (a:=([32,101,108,115,101,32]:List UInt8).length) (b:=6) (Po.parts (l.take i)) (by decide)
    have h3:=Po.parts_sum (l.take i) fun x hx=>hfl x (List.mem_of_mem_take hx)
    have h4:=Po.totL_le (l:=l) (k:=i)
    omega
  clear hpu
  obtain ⟨pk,pf,pv,pl⟩:=p
  simp only [pd_cs,po_cs,Pd.T.k,Pd.T.f,Pd.T.v,Pd.T.l] at *
  have eL:Lib.join (Po.parts l) [32,101,108,115,101,32]=Lib.join (Po.parts (l.take l.length)) [32,101,108,115,101,32]:=by rw [List.take_length]
  rw [eL]
  clear eL
  obtain ⟨hd,hH⟩:∃ hd:List UInt8,hd=([105,102,32]++(tp++[32,116,104,101,110,32])):=⟨_,rfl⟩
  have hhd:hd.length≤200000000000:=by rw [hH];simp;omega
  have eH:∀ z:List UInt8,([105,102,32]++(tp++[32,116,104,101,110,32]))++z=hd++z:=fun z=>by rw [hH]
  rw [eH]
  clear eH
  refine ncall_of Tryd.func16 rfl (by decide) ?_
  (repeat' (first|(with_reducible first|(refine hK _ _ ?_;clear hK K)|(refine hA ?_;clear hA hB A B)|(refine hB ?_;clear hA hB A B)|(refine hK _ ?_;clear hK K))|((with_reducible first|refine z25 ?_|refine z26 ?_);intro K hK;(conv=>whnf))|(with_reducible refine z0 ?_)|((first|((with_reducible refine NIf.yes ?s ?_);case s=>(simp ;done))|((with_reducible refine NIf.no ?s ?_);case s=>(simp ;done))|(with_reducible refine NN.a5 ?_)|((with_reducible refine NH.mk ?s ?_);case s=>(and_intros<;>first|with_reducible rfl|(simp only [List.length_append,List.length_cons,List.length_nil];omega)))|((with_reducible refine NCall.isF 20 ?_);refine NCall.subE [0] (cp) rfl (by decide) rfl rfl ?_)|(with_reducible refine NS.keep ?_))<;>(conv=>whnf))|(with_reducible first|refine z3 ?_|refine z4 ?_|refine z5 ?_|refine z6 ?_)|((with_reducible refine z29 ?_);intro A B hA hB;(conv=>whnf))|(with_reducible first|refine z1 ?_|refine z2 ?_)|((with_reducible refine gF ?_);(refine z33 rfl ?_;intro K hK;(conv=>whnf)))|((intro _;skip)<;>(conv=>whnf))))
  refine st_auto (α:=Nat) (fun i=>i≤l.length) (fun i=>[.keep,.keep,.keep,.set (.str (hd++Lib.join (Po.parts (l.take i)) [32,101,108,115,101,32])),.keep,.set (.int .i64 i),.drop,.keep,.keep,.keep,.keep,.keep,.keep,.keep,.keep,.keep,.keep,.keep,.keep,.keep,.keep,.keep,.keep,.keep,.keep,.keep,.keep,.keep,.keep,.keep,.keep,.keep,.keep,.keep,.keep,.keep,.keep,.keep,.keep,.keep,.keep,.keep,.keep,.keep,.keep,.keep,.keep,.keep,.keep,.keep,.keep,.keep,.keep,.keep,.drop,.drop,.drop,.drop,.drop,.drop,.drop,.drop,.drop,.drop,.drop,.drop,.drop,.drop,.drop,.drop,.drop,.drop,.drop,.drop,.drop,.drop,.drop,.drop,.drop,.drop,.drop,.drop,.drop,.drop,.drop,.keep]) (fun _=>[]) (fun i=>l.length - i) 0 (Nat.zero_le _) ?_ (MemFits.eq rfl) ?_
  · rw [hH]
    repeat (first|exact FitsSl.nil|refine FitsSl.any ?_|refine FitsSl.cons (Fit1.str (by  simp [Po.parts,Lib.join])) ?_|refine FitsSl.cons (Fit1.int (by first | rfl | omega)) ?_|refine FitsSl.cons (Fit1.bool rfl) ?_|refine FitsSl.cons (Fit1.same (by intro h;cases h) (by with_reducible rfl)) ?_)
  (intro i hi;intro K hK;(conv=>whnf);refine hK _ _ ?_;clear hK K)
  by_cases hlt:i<l.length
  · have hx:l[i]?=some l[i]:=List.getElem?_eq_getElem hlt
    obtain ⟨pA,pcap,A,cap,hA,c0,c1,c2,c3,c4,c5,c6,c7⟩:=hu.get hx
    have hxm:=List.mem_of_getElem? hx
    have c:=ci _ hxm _ _ hA
    have hxl:=Po.text_len _ (hfl _ hxm)
    have hxs:Po.tot l[i]≤Po.totL l:=by have h1:=Po.totL_take hlt;have h2:=Po.totL_le (l:=l) (k:=i+1);omega
    have hxk1:1≤l[i].k∧l[i].k≤5:=by
      have h1:=(Po.fits_iff (k:=l[i].k) (p:=l[i].p) (f:=l[i].f) (v:=l[i].v) (l:=l[i].l)).1 (by rw [Po.T.eta];exact hfl _ hxm)
      have h1:=h1.1
      omega
    have hAo:=hA.l.ok
    have hAp:=hA.p.ok
    have hnx:=Po.parts_take hlt
    have hpi:=Po.parts_len (l.take i)
    rw [List.length_take,Nat.min_eq_left hi] at hpi
    have hji:=hjl i
    have hj1:i=0→Lib.join (Po.parts (l.take (i+1))) [32,101,108,115,101,32]=Po.innerT l[i].k (Po.text l[i]):=fun h0=>by
      rw [hnx,List.length_eq_zero_iff.1 (by omega:(Po.parts (l.take i)).length=0)]
      exact Lib.join_one _ _
    have hj2:i≠0→Lib.join (Po.parts (l.take (i+1))) [32,101,108,115,101,32]=Lib.join (Po.parts (l.take i)) [32,101,108,115,101,32]++([32,101,108,115,101,32]++Po.innerT l[i].k (Po.text l[i])):=fun h0=>by
      rw [hnx]
      exact Pd.join_snoc _ _ _ fun e=>by rw [e] at hpi;exact h0 hpi.symm
    clear ci hjl hnx hpi
    generalize hj3:Lib.join (Po.parts (l.take (i+1))) [32,101,108,115,101,32]=J2 at *
    have hz0:i=0→Lib.join (Po.parts (l.take i)) [32,101,108,115,101,32]=[]:=fun h0=>by subst h0;rfl
    generalize Lib.join (Po.parts (l.take i)) [32,101,108,115,101,32]=J at *
    generalize Po.text l[i]=tx at *
    generalize Po.tot l[i]=tz at *
    generalize l[i]=x at *
    obtain ⟨xk,⟨xpk,xpf,xpv,xpl⟩,xf,xv,xl⟩:=x
    simp only [Po.cs,Po.T.k,Po.T.p,Po.T.f,Po.T.v,Po.T.l,Pd.T.k,Pd.T.f,Pd.T.v,Pd.T.l] at c c0 c1 c2 c3 c4 c5 c6 c7 hAo hAp hj1 hj2 hxk1
    by_cases h12:xk=1∨xk=2
    · rw [show Po.innerT xk tx=tx from if_pos h12] at hj1 hj2
      by_cases h0:i=0
      · subst h0
        have g1:=hj1 rfl
        have g0:=hz0 rfl
        clear hj1 hj2 hz0
        subst g0
        (repeat' (first|(with_reducible first|(refine hK _ _ ?_;clear hK K)|(refine hA ?_;clear hA hB A B)|(refine hB ?_;clear hA hB A B))|((with_reducible refine z25 ?_);intro K hK;(conv=>whnf))|(with_reducible refine z0 ?_)|((first|((with_reducible refine NV.i64 ?s ?_);case s=>omega)|((with_reducible refine NIf.decY ?s ?_);case s=>omega)|((with_reducible refine NIf.decN ?s ?_);case s=>omega)|(with_reducible first|refine NN.cast ?_|refine NN.a5 ?_|refine NN.a6 ?_)|((with_reducible refine NH.mk ?s ?_);case s=>(and_intros<;>first|with_reducible rfl|omega|(simp only [List.length_append,List.length_cons,List.length_nil];omega)))|((with_reducible refine NCall.isF 16 ?_);refine NCall.subE [0] (c) rfl (by decide) rfl rfl ?_)|(with_reducible first|refine NS.keep ?_|refine NLd.of (by with_reducible assumption) ?_))<;>(conv=>whnf))|(with_reducible first|refine z3 ?_|refine z4 ?_|refine z5 ?_|refine z6 ?_)|((with_reducible refine z29 ?_);intro A B hA hB;(conv=>whnf))|(with_reducible first|refine z1 ?_|refine z2 ?_|refine z9 ?_)))
        all_goals first | (exfalso;omega) | skip
        all_goals refine st_round (0+1) hlt (by omega) ?_ (MemFits.eq rfl)
        all_goals rw [hj3,g1]
        all_goals repeat (first|exact FitsSl.nil|refine FitsSl.any ?_|refine FitsSl.cons (Fit1.str (by  simp)) ?_|refine FitsSl.cons (Fit1.int (by first | rfl | omega)) ?_|refine FitsSl.cons (Fit1.bool rfl) ?_|refine FitsSl.cons (Fit1.same (by intro h;cases h) (by with_reducible rfl)) ?_)
      · have hj2:=hj2 h0
        clear hj1 hz0
        (repeat' (first|(with_reducible first|(refine hK _ _ ?_;clear hK K)|(refine hA ?_;clear hA hB A B)|(refine hB ?_;clear hA hB A B))|((with_reducible refine z25 ?_);intro K hK;(conv=>whnf))|(with_reducible refine z0 ?_)|((first|((with_reducible refine NV.i64 ?s ?_);case s=>omega)|((with_reducible refine NIf.decY ?s ?_);case s=>omega)|((with_reducible refine NIf.decN ?s ?_);case s=>omega)|(with_reducible first|refine NN.cast ?_|refine NN.a5 ?_|refine NN.a6 ?_|refine NN.keep ?_)|((with_reducible refine NH.mk ?s ?_);case s=>(and_intros<;>first|with_reducible rfl|omega|(simp only [List.length_append,List.length_cons,List.length_nil];omega)))|((with_reducible refine NCall.isF 16 ?_);refine NCall.subE [0] (c) rfl (by decide) rfl rfl ?_)|(with_reducible first|refine NS.keep ?_|refine NLd.of (by with_reducible assumption) ?_))<;>(conv=>whnf))|(with_reducible first|refine z3 ?_|refine z4 ?_|refine z5 ?_|refine z6 ?_)|((with_reducible refine z29 ?_);intro A B hA hB;(conv=>whnf))|(with_reducible first|refine z1 ?_|refine z2 ?_|refine z9 ?_)))
        all_goals first | (exfalso;omega) | skip
        all_goals refine st_round (i+1) hlt (by omega) ?_ (MemFits.eq rfl)
        all_goals rw [hj3,hj2]
        all_goals repeat (first|exact FitsSl.nil|refine FitsSl.any ?_|refine FitsSl.cons (Fit1.str (by  simp)) ?_|refine FitsSl.cons (Fit1.int (by first | rfl | omega)) ?_|refine FitsSl.cons (Fit1.bool rfl) ?_|refine FitsSl.cons (Fit1.same (by intro h;cases h) (by with_reducible rfl)) ?_)
    · rw [show Po.innerT xk tx=40::(tx++[41]) from if_neg h12] at hj1 hj2
      by_cases h0:i=0
      · subst h0
        have g1:=hj1 rfl
        have g0:=hz0 rfl
        clear hj1 hj2 hz0
        subst g0
        (repeat' (first|(with_reducible first|(refine hK _ _ ?_;clear hK K)|(refine hA ?_;clear hA hB A B)|(refine hB ?_;clear hA hB A B))|((with_reducible refine z25 ?_);intro K hK;(conv=>whnf))|(with_reducible refine z0 ?_)|((first|((with_reducible refine NV.i64 ?s ?_);case s=>omega)|((with_reducible refine NIf.decY ?s ?_);case s=>omega)|((with_reducible refine NIf.decN ?s ?_);case s=>omega)|(with_reducible first|refine NN.cast ?_|refine NN.a5 ?_|refine NN.a6 ?_)|((with_reducible refine NH.mk ?s ?_);case s=>(and_intros<;>first|with_reducible rfl|omega|(simp only [List.length_append,List.length_cons,List.length_nil];omega)))|((with_reducible refine NCall.isF 16 ?_);refine NCall.subE [0] (c) rfl (by decide) rfl rfl ?_)|(with_reducible first|refine NS.keep ?_|refine NLd.of (by with_reducible assumption) ?_))<;>(conv=>whnf))|(with_reducible first|refine z3 ?_|refine z4 ?_|refine z5 ?_|refine z6 ?_)|((with_reducible refine z29 ?_);intro A B hA hB;(conv=>whnf))|(with_reducible first|refine z1 ?_|refine z2 ?_|refine z9 ?_)))
        all_goals first | (exfalso;omega) | skip
        all_goals refine st_round (0+1) hlt (by omega) ?_ (MemFits.eq rfl)
        all_goals rw [hj3,g1]
        all_goals repeat (first|exact FitsSl.nil|refine FitsSl.any ?_|refine FitsSl.cons (Fit1.str (by  simp)) ?_|refine FitsSl.cons (Fit1.int (by first | rfl | omega)) ?_|refine FitsSl.cons (Fit1.bool rfl) ?_|refine FitsSl.cons (Fit1.same (by intro h;cases h) (by with_reducible rfl)) ?_)
      · have hj2:=hj2 h0
        clear hj1 hz0
        (repeat' (first|(with_reducible first|(refine hK _ _ ?_;clear hK K)|(refine hA ?_;clear hA hB A B))|((with_reducible refine z25 ?_);intro K hK;(conv=>whnf))|(with_reducible refine z0 ?_)|((first|((with_reducible refine NV.i64 ?s ?_);case s=>omega)|((with_reducible refine NIf.decY ?s ?_);case s=>omega)|(with_reducible first|refine NN.cast ?_|refine NN.a5 ?_|refine NN.a6 ?_|refine NN.keep ?_)|((with_reducible refine NH.mk ?s ?_);case s=>(and_intros<;>first|with_reducible rfl|omega|(simp only [List.length_append,List.length_cons,List.length_nil];omega)))|((with_reducible refine NCall.isF 16 ?_);refine NCall.subE [0] (c) rfl (by decide) rfl rfl ?_)|(with_reducible first|refine NS.keep ?_|refine NLd.of (by with_reducible assumption) ?_))<;>(conv=>whnf))|(with_reducible first|refine z3 ?_|refine z4 ?_|refine z5 ?_|refine z6 ?_)|((with_reducible refine z29 ?_);intro A B hA hB;(conv=>whnf))|(with_reducible first|refine z1 ?_|refine z2 ?_|refine z9 ?_)))
        all_goals first | (exfalso;omega) | skip
        all_goals refine st_round (i+1) hlt (by omega) ?_ (MemFits.eq rfl)
        all_goals rw [hj3,hj2]
        all_goals repeat (first|exact FitsSl.nil|refine FitsSl.any ?_|refine FitsSl.cons (Fit1.str (by  simp)) ?_|refine FitsSl.cons (Fit1.int (by first | rfl | omega)) ?_|refine FitsSl.cons (Fit1.bool rfl) ?_|refine FitsSl.cons (Fit1.same (by intro h;cases h) (by with_reducible rfl)) ?_)
  · have hkl:i=l.length:=by omega
    subst hkl
    have hjl:=hjl l.length
    generalize Lib.join (Po.parts (l.take l.length)) [32,101,108,115,101,32]=J at *
    clear ci
    (repeat' (first|(with_reducible first|(refine hK _ _ ?_;clear hK K)|(refine hB ?_;clear hA hB A B)|(refine hK _ ?_;clear hK K))|((with_reducible refine z25 ?_);intro K hK;(conv=>whnf))|(with_reducible refine z0 ?_)|((first|((with_reducible refine NIf.decN ?s ?_);case s=>omega)|(with_reducible refine NN.a5 ?_)|((with_reducible refine NH.mk ?s ?_);case s=>(and_intros<;>first|with_reducible rfl|omega)))<;>(conv=>whnf))|(with_reducible first|refine z3 ?_|refine z4 ?_|refine z7 ?_|refine z8 ?_)|((with_reducible refine z29 ?_);intro A B hA hB;(conv=>whnf))|(with_reducible first|refine z1 ?_|refine z2 ?_|refine z10 ?_|refine z11 ?_|refine z19 ?_)|((with_reducible refine gR ?_);(refine z31 rfl ?_;intro K hK;(conv=>whnf)))))
    all_goals exact ⟨rfl,MemFits.pre 1 rfl⟩
theorem reftext27_c (F:Heap):∀ (n:Nat) (x:Po.T) (pu u:Value),Po.tot x≤n→Po.tot x≤1000000000→Po.fits x=true→Po.At F x pu u →
    NCall Tryd.prog 16 [.agg (Po.cs x pu u)] [hpB F] fun r m=>r = .str (Po.text x)∧m=[hpB F]
  | 0,x,pu,u,hn,_,_,_=>absurd (Po.tot_pos x) (by omega)
  | n+1,⟨k,p,f,v,l⟩,pu,u,hn,hs,hf,hx=>by
    refine NCall.fits (K:=fun r m=>r = .str (Po.text (.mk k p f v l))∧MemFits m [hpB F]) ?_ fun r m' h=>⟨r,_,rfl,h.2,h.1,rfl⟩
    have hu:Po.Row F u l:=hx.l
    have hpu:Pd.Row F pu p.l:=hx.p
    obtain ⟨hsh,hfl⟩:=Po.fits_iff.1 hf
    have e2:=Po.tot_mk k p f v l
    have ci:∀ x∈l,∀ pA A,Po.At F x pA A→NCall Tryd.prog 16 [.agg (Po.cs x pA A)] [hpB F] fun r m=>r = .str (Po.text x)∧m=[hpB F]:=fun x hx pA A hA=>by
      have hlt:=Po.tot_lt (k:=k) (q:=p) (f:=f) (v:=v) hx
      exact reftext27_c F n x pA A (by omega) (by omega) (hfl x hx) hA
    rcases hsh with ⟨rfl,hr,_,hl⟩ | ⟨rfl,_,hf4,hv4,hl⟩ | ⟨rfl | rfl,_,_,hl1,hl2⟩ | ⟨rfl,hr,_,hl⟩
    · have hl0:l=[]:=List.length_eq_zero_iff.1 hl
      subst hl0
      rw [Po.text,if_pos rfl]
      exact reftext27_1 F p f v pu u (by omega) (Po.right_fits hr) hu.ok hpu
    · have hl0:l=[]:=List.length_eq_zero_iff.1 hl
      subst hl0
      have htop:=Pd.top_lt f
      rw [Po.text,if_neg (by decide),if_pos rfl]
      have hpok:=hpu.ok
      obtain ⟨pk,pf,pv,pl⟩:=p
      exact reftext27_2 F pk pf pv pl f v pu u hu.ok hpok hf4 (by omega)
    · rw [Po.text,if_neg (by decide),if_neg (by decide),if_neg (by decide)]
      exact reftext27_3 F p f v l pu u hpu hu hl2 hfl (by omega) ci
    · rw [Po.text,if_neg (by decide),if_neg (by decide),if_neg (by decide)]
      exact reftext27_4 F p f v l pu u hpu hu hl2 hfl (by omega) ci
    · rw [Po.text,if_neg (by decide),if_neg (by decide),if_pos rfl]
      exact reftext27_5 F p f v l pu u hpu hu (by omega) _ (by have:=Pd.text_len p (Po.right_fits hr);omega) (reftext26_c F _ p pu (Nat.le_refl _) (by omega) (Po.right_fits hr) hpu) hfl (by omega) ci
end Go.Proofs.YtaojbkphcnailaaDoor
