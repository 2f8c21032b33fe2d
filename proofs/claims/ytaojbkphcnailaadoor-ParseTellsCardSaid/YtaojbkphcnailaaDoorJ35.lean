import Derived.Test.YtaojbkphcnailaaDoorJ10
import Derived.Test.YtaojbkphcnailaaDoorJ34
import Derived.Test.YtaojbkphcnailaaDoorJ27
import Derived.Test.YtaojbkphcnailaaDoorJ13
namespace Go.Proofs.YtaojbkphcnailaaDoor
open Go.Sx
set_option maxRecDepth 20000
set_option linter.unusedSimpArgs false
set_option linter.unusedVariables false
set_option maxHeartbeats 4000000
set_option linter.unusedVariables false
theorem words26_c:NCall Tryd.prog 47 [] [] fun r _=>r = .agg [.str [115,114,99],.str [100,115,116],.str [107,105,110,100],.str [116,97,103],.str [112,111,114,116],.str [115,119,105,116,99,104]]:=by
  refine ncall_of Tryd.func47 rfl (by decide) ?_
  (repeat' (first|(with_reducible first|(refine hK _ _ ?_;clear hK K)|(refine hK _ ?_;clear hK K))|((with_reducible refine z25 ?_);intro K hK;(conv=>whnf))|(with_reducible refine z0 ?_)|(((with_reducible refine NH.mk ?s ?_);case s=>(and_intros<;>first|with_reducible rfl|((with_reducible refine gOnes ?_);rfl)|((with_reducible refine gLen ?_);rfl)))<;>(conv=>whnf))|(with_reducible first|refine z3 ?_|refine z4 ?_|refine z8 ?_|refine z1 ?_|refine z2 ?_)|((with_reducible refine gR ?_);(refine z31 rfl ?_;intro K hK;(conv=>whnf)))|((with_reducible refine gF ?_);(refine z33 rfl ?_;intro K hK;(conv=>whnf)))|((intro _;skip)<;>(conv=>whnf))))
  all_goals rfl
theorem inner26_of (F:Heap) (k f v:Int) (l:List Pd.T) (u:Value) (s:List UInt8) (hok:SlOk u l.length) (hs:s.length≤4611686018427387904) (h:NCall Tryd.prog 21 [.agg (Pd.cs (.mk k f v l) u)] [hpB F] fun r m=>r = .str s∧m=[hpB F]) :
    NCall Tryd.prog 48 [.agg [.int .i64 k,.int .i64 f,.int .i64 v,.hs u l.length]] [hpB F] fun r m=>r = .str (Pd.innerT k s)∧m=[hpB F]:=by
  refine NCall.fits (K:=fun r m=>r = .str (Pd.innerT k s)∧MemFits m [hpB F]) ?_ fun r m' h=>⟨r,_,rfl,h.2,h.1,rfl⟩
  rw [pd_cs] at h
  unfold Pd.innerT
  refine ncall_of Tryd.func48 rfl (by decide) ?_
  by_cases hk:k=5∨k=6
  · rw [if_pos hk]
    rcases hk with rfl | rfl
    · (repeat' (first|(with_reducible first|(refine hK _ _ ?_;clear hK K)|(refine hA ?_;clear hA hB A B)|(refine hK _ ?_;clear hK K))|((with_reducible first|refine z25 ?_|refine z26 ?_);intro K hK;(conv=>whnf))|(with_reducible refine z0 ?_)|((first|((with_reducible refine NIf.decY ?s ?_);case s=>with_reducible rfl)|((with_reducible refine NIf.yes ?s ?_);case s=>rfl)|(with_reducible refine NN.a5 ?_)|((with_reducible refine NH.mk ?s ?_);case s=>(and_intros<;>first|with_reducible rfl|(simp only [List.length_append,List.length_cons,List.length_nil];omega)))|((with_reducible refine NCall.isF 21 ?_);refine NCall.subE [0] (h) rfl (by decide) rfl rfl ?_)|(with_reducible refine NS.keep ?_))<;>(conv=>whnf))|(with_reducible first|refine z3 ?_|refine z4 ?_|refine z8 ?_)|((with_reducible refine z29 ?_);intro A B hA hB;(conv=>whnf))|(with_reducible first|refine z1 ?_|refine z2 ?_|refine z12 ?_)|((with_reducible refine gR ?_);(refine z31 rfl ?_;intro K hK;(conv=>whnf)))|((with_reducible refine gF ?_);(refine z33 rfl ?_;intro K hK;(conv=>whnf)))|((intro _;skip)<;>(conv=>whnf))))
      all_goals exact ⟨rfl,MemFits.pre 1 rfl⟩
    · (repeat' (first|(with_reducible first|(refine hK _ _ ?_;clear hK K)|(refine hA ?_;clear hA hB A B)|(refine hK _ ?_;clear hK K))|((with_reducible first|refine z25 ?_|refine z26 ?_);intro K hK;(conv=>whnf))|(with_reducible refine z0 ?_)|((first|((with_reducible refine NIf.decY ?s ?_);case s=>with_reducible rfl)|((with_reducible refine NIf.decN ?s ?_);case s=>omega)|(with_reducible refine NN.a5 ?_)|((with_reducible refine NH.mk ?s ?_);case s=>(and_intros<;>first|with_reducible rfl|(simp only [List.length_append,List.length_cons,List.length_nil];omega)))|((with_reducible refine NCall.isF 21 ?_);refine NCall.subE [0] (h) rfl (by decide) rfl rfl ?_)|(with_reducible refine NS.keep ?_))<;>(conv=>whnf))|(with_reducible first|refine z3 ?_|refine z4 ?_|refine z8 ?_)|((with_reducible refine z29 ?_);intro A B hA hB;(conv=>whnf))|(with_reducible first|refine z1 ?_|refine z2 ?_|refine z12 ?_)|((with_reducible refine gR ?_);(refine z31 rfl ?_;intro K hK;(conv=>whnf)))|((with_reducible refine gF ?_);(refine z33 rfl ?_;intro K hK;(conv=>whnf)))|((intro _;skip)<;>(conv=>whnf))))
      all_goals exact ⟨rfl,MemFits.pre 1 rfl⟩
  · rw [if_neg hk]
    (repeat' (first|(with_reducible first|(refine hK _ _ ?_;clear hK K)|(refine hB ?_;clear hA hB A B)|(refine hK _ ?_;clear hK K))|((with_reducible first|refine z25 ?_|refine z26 ?_);intro K hK;(conv=>whnf))|(with_reducible refine z0 ?_)|((first|((with_reducible refine NIf.decN ?s ?_);case s=>omega)|(with_reducible refine NN.a5 ?_)|((with_reducible refine NH.mk ?s ?_);case s=>(and_intros<;>with_reducible rfl))|((with_reducible refine NCall.isF 21 ?_);refine NCall.subE [0] (h) rfl (by decide) rfl rfl ?_))<;>(conv=>whnf))|(with_reducible first|refine z3 ?_|refine z4 ?_|refine z6 ?_|refine z8 ?_)|((with_reducible refine z29 ?_);intro A B hA hB;(conv=>whnf))|(with_reducible first|refine z1 ?_|refine z2 ?_)|((with_reducible refine gR ?_);(refine z31 rfl ?_;intro K hK;(conv=>whnf)))|((with_reducible refine gF ?_);(refine z33 rfl ?_;intro K hK;(conv=>whnf)))|((intro _;skip)<;>(conv=>whnf))))
    all_goals first
      | exact ⟨rfl,MemFits.pre 1 rfl⟩
      | (exfalso;omega)
theorem text26_3 (F:Heap) (hF:TabF F) (f v:Int) (u:Value) (hok:SlOk u 0) (hf:0≤f∧f≤5) (hv:0≤v∧v≤255) :
    NCall Tryd.prog 21 [.agg [.int .i64 3,.int .i64 f,.int .i64 v,.hs u 0]] [hpB F] fun r m=>r = .str (Pd.word f++([32,61,32]++Lib.itoa v))∧MemFits m [hpB F]:=by
  have ci:=itoa_c F hF v (by omega)
  have hln:=Lib.itoa_length_le v (by omega) (by omega)
  generalize Lib.itoa v=s at *
  have:f=0∨f=1∨f=2∨f=3∨f=4∨f=5:=by omega
  refine ncall_of Tryd.func21 rfl (by decide) ?_
  rcases this with rfl | rfl | rfl | rfl | rfl | rfl
  all_goals (repeat' (first|(with_reducible first|(refine hK _ _ ?_;clear hK K)|(refine hA ?_;clear hA hB A B)|(refine hB ?_;clear hA hB A B)|(refine hK _ ?_;clear hK K))|((with_reducible refine z25 ?_);intro K hK;(conv=>whnf))|(with_reducible refine z0 ?_)|((first|(with_reducible refine NV.keep ?_)|((with_reducible refine NIf.decY ?s ?_);case s=>with_reducible rfl)|((with_reducible refine NIf.decN ?s ?_);case s=>omega)|(with_reducible first|refine NN.a2 ?_|refine NN.a5 ?_|refine NN.keep ?_)|((with_reducible refine NH.mk ?s ?_);case s=>(and_intros<;>first|with_reducible rfl|((with_reducible refine gKept ?_);exact rfl)|omega|exact Nat.le_of_ble_eq_true rfl|(simp only [List.length_append,List.length_cons,List.length_nil];omega)|rfl))|((with_reducible refine NCall.isF 47 ?_);refine NCall.pureE (words26_c) ?_)|((with_reducible refine NCall.isF 42 ?_);refine NCall.subE [0] (ci) rfl (by decide) rfl rfl ?_)|(with_reducible refine NS.keep ?_))<;>(conv=>whnf))|(with_reducible refine st_ordSout ?_)|((with_reducible refine gNOK ?_);(first|(refine st_ordK1 rfl (by kernel_rfl) rfl ?_;intro K hK;(conv=>whnf))|refine st_ordK0 rfl (by kernel_rfl) ?_|refine st_ordKA rfl rfl (by kernel_rfl) (by intro h;cases h) ?_))|((with_reducible refine gNEK ?_);(first|(refine st_eachK ?_ ?_;(intro K hK;(conv=>whnf)))|exact st_eachK0))|((with_reducible refine gX ?_);(first|refine st_orderS [] rfl rfl (by kernel_rfl) _ rfl ?_|(with_reducible first|refine z3 ?_|refine z4 ?_|refine z5 ?_|refine z8 ?_)|((with_reducible refine z29 ?_);intro A B hA hB;(conv=>whnf))))|(with_reducible first|refine z1 ?_|refine z2 ?_|refine z12 ?_|refine z13 ?_)|((with_reducible refine gR ?_);(refine z31 rfl ?_;intro K hK;(conv=>whnf)))|((with_reducible refine gF ?_);(refine z33 rfl ?_;intro K hK;(conv=>whnf)))|((intro _;skip)<;>(conv=>whnf))))
  all_goals exact ⟨by simp [Pd.word],MemFits.pre 1 rfl⟩
theorem text26_c (F:Heap) (hF:TabF F):∀ (n:Nat) (p:Pd.T) (u:Value),Pd.size p≤n→Pd.size p≤1000000000→Pd.fits p=true→Pd.Row F u p.l →
    NCall Tryd.prog 21 [.agg (Pd.cs p u)] [hpB F] fun r m=>r = .str (Pd.text p)∧m=[hpB F]
  | 0,p,u,hn,_,_,_=>absurd (Pd.size_pos p) (by omega)
  | n+1,⟨k,f,v,l⟩,u,hn,hs,hf,hu=>by
    refine NCall.fits (K:=fun r m=>r = .str (Pd.text (.mk k f v l))∧MemFits m [hpB F]) ?_ fun r m' h=>⟨r,_,rfl,h.2,h.1,rfl⟩
    have hu:Pd.Row F u l:=hu
    have hok:=hu.ok
    have htl:=Pd.text_len _ hf
    obtain ⟨hsh,hfl⟩:=Pd.fits_mk hf
    have e2:=Pd.size_mk k f v l
    have hll:=Pd.length_le l
    have htop:=Pd.top_lt f
    rw [pd_cs]
    by_cases h3:k=3
    · subst h3
      have hl0:l=[]:=List.length_eq_zero_iff.1 (by omega)
      subst hl0
      have:=text26_3 F hF f v u hok (by omega) (by omega)
      rw [Pd.text]
      exact this
    by_cases h1:k=1
    · subst h1
      rw [Pd.text]
      refine ncall_of Tryd.func21 rfl (by decide) ?_
      (repeat' (first|(with_reducible first|(refine hK _ _ ?_;clear hK K)|(refine hA ?_;clear hA hB A B)|(refine hK _ ?_;clear hK K))|((with_reducible refine z25 ?_);intro K hK;(conv=>whnf))|(with_reducible refine z0 ?_)|((first|((with_reducible refine NIf.decY ?s ?_);case s=>with_reducible rfl)|(with_reducible refine NN.a5 ?_)|((with_reducible refine NH.mk ?s ?_);case s=>(and_intros<;>with_reducible rfl)))<;>(conv=>whnf))|(with_reducible first|refine z3 ?_|refine z4 ?_|refine z5 ?_|refine z8 ?_)|((with_reducible refine z29 ?_);intro A B hA hB;(conv=>whnf))|(with_reducible first|refine z1 ?_|refine z2 ?_|refine z12 ?_|refine z13 ?_)|((with_reducible refine gR ?_);(refine z31 rfl ?_;intro K hK;(conv=>whnf)))|((with_reducible refine gF ?_);(refine z33 rfl ?_;intro K hK;(conv=>whnf)))|((intro _;skip)<;>(conv=>whnf))))
      all_goals exact ⟨rfl,MemFits.pre 1 rfl⟩
    by_cases h2:k=2
    · subst h2
      rw [Pd.text]
      refine ncall_of Tryd.func21 rfl (by decide) ?_
      (repeat' (first|(with_reducible first|(refine hK _ _ ?_;clear hK K)|(refine hA ?_;clear hA hB A B)|(refine hB ?_;clear hA hB A B)|(refine hK _ ?_;clear hK K))|((with_reducible refine z25 ?_);intro K hK;(conv=>whnf))|(with_reducible refine z0 ?_)|((first|((with_reducible refine NIf.decY ?s ?_);case s=>with_reducible rfl)|((with_reducible refine NIf.decN ?s ?_);case s=>assumption)|(with_reducible refine NN.a5 ?_)|((with_reducible refine NH.mk ?s ?_);case s=>(and_intros<;>with_reducible rfl)))<;>(conv=>whnf))|(with_reducible first|refine z3 ?_|refine z4 ?_|refine z5 ?_|refine z8 ?_)|((with_reducible refine z29 ?_);intro A B hA hB;(conv=>whnf))|(with_reducible first|refine z1 ?_|refine z2 ?_|refine z12 ?_|refine z13 ?_)|((with_reducible refine gR ?_);(refine z31 rfl ?_;intro K hK;(conv=>whnf)))|((with_reducible refine gF ?_);(refine z33 rfl ?_;intro K hK;(conv=>whnf)))|((intro _;skip)<;>(conv=>whnf))))
      all_goals exact ⟨rfl,MemFits.pre 1 rfl⟩
    have hpl:=Pd.parts_len l
    have ci:∀ x∈l,∀ A,Pd.Row F A x.l→NCall Tryd.prog 48 [.agg (Pd.cs x A)] [hpB F] fun r m=>r = .str (Pd.innerT x.k (Pd.text x))∧m=[hpB F]:=fun x hx A hA=>by
      have hlt:=Pd.size_lt (k:=k) (f:=f) (v:=v) hx
      have:=text26_c F hF n x A (by omega) (by omega) (hfl x hx) hA
      have hxl:=Pd.text_len x (hfl x hx)
      obtain ⟨xk,xf,xv,xl⟩:=x
      exact inner26_of F xk xf xv xl A _ hA.ok (by omega) this
    have hsum:=Pd.parts_sum l (by rw [Pd.fitsL_iff];exact hfl)
    have hj0:=Nat.le_trans (Pd.join_le [] (Pd.parts l)) (Pd.sum_le (a:=([]:List UInt8).length) (b:=5) _ (by simp))
    have hj5:=Nat.le_trans (Pd.join_le [32,97,110,100,32] (Pd.parts l)) (Pd.sum_le (a:=([32,97,110,100,32]:List UInt8).length) (b:=5) _ (by simp))
    have hj6:=Nat.le_trans (Pd.join_le [32,111,114,32] (Pd.parts l)) (Pd.sum_le (a:=([32,111,114,32]:List UInt8).length) (b:=5) _ (by simp))
    have hT:Pd.text (.mk k f v l)=if k=4 then [110,111,116,32]++Lib.join (Pd.parts l) [] else Lib.join (Pd.parts l) (Pd.sepOf k):=by rw [Pd.text,if_neg h1,if_neg h2,if_neg h3]
    rw [hT]
    refine ncall_of Tryd.func21 rfl (by decide) ?_
    (repeat' (first|(with_reducible first|(refine hK _ _ ?_;clear hK K)|(refine hB ?_;clear hA hB A B)|(refine hK _ ?_;clear hK K))|((with_reducible refine z25 ?_);intro K hK;(conv=>whnf))|(with_reducible refine z0 ?_)|((first|((with_reducible refine NIf.decN ?s ?_);case s=>assumption)|(with_reducible refine NN.a5 ?_)|((with_reducible refine NH.mk ?s ?_);case s=>(and_intros<;>first|with_reducible rfl|omega)))<;>(conv=>whnf))|(with_reducible first|refine z3 ?_|refine z4 ?_|refine z5 ?_|refine z6 ?_)|((with_reducible refine z29 ?_);intro A B hA hB;(conv=>whnf))|(with_reducible first|refine z1 ?_|refine z2 ?_|refine z9 ?_)|((with_reducible refine gF ?_);(refine z33 rfl ?_;intro K hK;(conv=>whnf)))|((intro _;skip)<;>(conv=>whnf))))
    refine st_auto (α:=Value × Nat) (fun (w,i)=>i≤l.length) (fun (w,i)=>[.keep,.keep,.keep,.set (.sl 2 w i),.keep,.drop,.keep,.keep,.keep,.keep,.keep,.keep,.keep,.keep,.keep,.keep,.keep,.keep,.keep,.keep,.keep,.keep,.keep,.keep,.keep,.keep,.keep,.keep,.set (.int .i64 i),.drop,.drop,.drop,.drop,.drop,.drop,.drop,.drop,.drop,.keep,.keep,.keep,.keep,.keep,.keep,.keep,.keep,.keep,.keep,.keep,.keep,.keep]) (fun (w,i)=>[.keep,.keep,.set ⟨addrOf w,strAV (Pd.parts (l.take i)),.row w 9 1 i⟩]) (fun (w,i)=>l.length - i) (.slice none 0 0,0) (Nat.zero_le _) ?_ ((MemFits.nilRow _ 9 1).trans (MemFits.congr rfl)) ?_
    · repeat (first|exact FitsSl.nil|refine FitsSl.any ?_|refine FitsSl.cons (Fit1.int (by first | rfl | omega)) ?_|refine FitsSl.cons (Fit1.bool rfl) ?_|refine FitsSl.cons (Fit1.str rfl) ?_|refine FitsSl.cons (Fit1.same (by intro h;cases h) (by with_reducible rfl)) ?_|refine FitsSl.cons Fit1.nil_sl ?_)
    (intro ⟨w,i⟩ hi;intro K hK;(conv=>whnf);refine hK _ _ ?_;clear hK K)
    dsimp only
    have hi:i≤l.length:=hi
    by_cases hlt:i<l.length
    · have hx:l[i]?=some l[i]:=List.getElem?_eq_getElem hlt
      obtain ⟨A,cap,hA,c0,c1,c2,c3⟩:=hu.get hx
      have c:=ci _ (List.mem_of_getElem? hx) _ hA
      have hnx:=Pd.parts_take hlt
      have hpi:=Pd.parts_len (l.take i)
      rw [List.length_take,Nat.min_eq_left hi] at hpi
      have hav:=strAV_len (Pd.parts (l.take i))
      rw [hpi] at hav
      have hav2:strAV (Pd.parts (l.take (i+1)))=strAV (Pd.parts (l.take i))++[.str (Pd.innerT l[i].k (Pd.text l[i]))]:=by rw [hnx];unfold strAV;rw [List.map_append];rfl
      clear ci hT hj0 hj5 hj6 hsum hnx
      generalize Pd.innerT l[i].k (Pd.text l[i])=y at *
      generalize l[i]=x at *
      generalize strAV (Pd.parts (l.take i))=B at *
      obtain ⟨xk,xf,xv,xl⟩:=x
      simp only [Pd.cs,Pd.T.k,Pd.T.f,Pd.T.v,Pd.T.l] at c c0 c1 c2 c3 hA
      (repeat' (first|(with_reducible first|(refine hK _ _ ?_;clear hK K)|(refine hA ?_;clear hA hB A B))|((with_reducible refine z25 ?_);intro K hK;(conv=>whnf))|(with_reducible refine z0 ?_)|((first|((with_reducible refine NV.i64 ?s ?_);case s=>omega)|((with_reducible refine NIf.decY ?s ?_);case s=>omega)|(with_reducible first|refine NN.cast ?_|refine NN.keep ?_)|((with_reducible refine NH.mk ?s ?_);case s=>(and_intros<;>first|with_reducible rfl|((with_reducible refine gOnes ?_);rfl)|((with_reducible refine gLen ?_);rfl)|omega))|((with_reducible refine NCall.isF 48 ?_);refine NCall.subE [0] (c) rfl (by decide) rfl rfl ?_)|(with_reducible refine NLd.of (by with_reducible assumption) ?_))<;>(conv=>whnf))|(with_reducible first|refine z3 ?_|refine z4 ?_|refine z5 ?_|refine z6 ?_)|((with_reducible refine z29 ?_);intro A B hA hB;(conv=>whnf))|(with_reducible first|refine z1 ?_|refine z2 ?_|refine z9 ?_)|((intro _;skip)<;>(conv=>whnf))))
      all_goals
        rename_i v9
        refine st_round (v9,i+1) hlt (by show l.length - (i+1)<l.length - i;omega) ?_ (MemFits.pre 3 ?_)
        · dsimp only
          repeat (first|exact FitsSl.nil|refine FitsSl.any ?_|refine FitsSl.cons (Fit1.int (by first | rfl | omega)) ?_|refine FitsSl.cons (Fit1.bool rfl) ?_|refine FitsSl.cons (Fit1.str rfl) ?_|refine FitsSl.cons (Fit1.same (by intro h;cases h) (by with_reducible rfl)) ?_)
        · simp only [autoM,List.take,hav2]
          rfl
    · have hkl:i=l.length:=by omega
      subst hkl
      rw [List.take_length]
      clear ci
      have hjo:=fun m sep hm h1=>join_own F w (Pd.parts l) sep 9 m hm h1 (by omega) 2
      rw [hpl] at hjo
      by_cases h4:k=4
      · subst h4
        rw [if_pos rfl]
        (repeat' (first|(with_reducible first|(refine hK _ _ ?_;clear hK K)|(refine hA ?_;clear hA hB A B)|(refine hB ?_;clear hA hB A B)|(refine hK _ ?_;clear hK K))|((with_reducible refine z25 ?_);intro K hK;(conv=>whnf))|(with_reducible refine z0 ?_)|((first|((with_reducible refine NIf.decY ?s ?_);case s=>with_reducible rfl)|((with_reducible refine NIf.decN ?s ?_);case s=>omega)|(with_reducible refine NN.a5 ?_)|((with_reducible refine NH.mk ?s ?_);case s=>(and_intros<;>first|with_reducible rfl|(simp only [List.length_append,List.length_cons,List.length_nil];omega)))|(with_reducible refine NS.keep ?_))<;>(conv=>whnf))|((with_reducible refine NCall.isF 43 ?_);(refine (hjo _ [] (MemFits.pick (m':=[hpB F,_]) [0,2] (by decide) rfl) (by omega)).mono ?_;rintro _ _ ⟨rfl,rfl⟩;(conv=>whnf)))|(with_reducible first|refine z3 ?_|refine z4 ?_|refine z5 ?_|refine z7 ?_|refine z8 ?_)|((with_reducible refine z29 ?_);intro A B hA hB;(conv=>whnf))|(with_reducible first|refine z1 ?_|refine z2 ?_|refine z10 ?_|refine z11 ?_|refine z12 ?_|refine z13 ?_|refine z19 ?_)|((with_reducible refine gR ?_);(refine z31 rfl ?_;intro K hK;(conv=>whnf)))))
        all_goals exact ⟨rfl,MemFits.pre 1 rfl⟩
      rw [if_neg h4]
      by_cases h5:k=5
      · subst h5
        (repeat' (first|(with_reducible first|(refine hK _ _ ?_;clear hK K)|(refine hA ?_;clear hA hB A B)|(refine hB ?_;clear hA hB A B)|(refine hK _ ?_;clear hK K))|((with_reducible refine z25 ?_);intro K hK;(conv=>whnf))|(with_reducible refine z0 ?_)|((first|((with_reducible refine NIf.decY ?s ?_);case s=>with_reducible rfl)|((with_reducible refine NIf.decN ?s ?_);case s=>first|assumption|omega)|(with_reducible refine NN.a5 ?_)|((with_reducible refine NH.mk ?s ?_);case s=>(and_intros<;>with_reducible rfl)))<;>(conv=>whnf))|((with_reducible refine NCall.isF 43 ?_);(refine (hjo _ [32,97,110,100,32] (MemFits.pick (m':=[hpB F,_]) [0,2] (by decide) rfl) (by omega)).mono ?_;rintro _ _ ⟨rfl,rfl⟩;(conv=>whnf)))|(with_reducible first|refine z3 ?_|refine z4 ?_|refine z5 ?_|refine z7 ?_|refine z8 ?_)|((with_reducible refine z29 ?_);intro A B hA hB;(conv=>whnf))|(with_reducible first|refine z1 ?_|refine z2 ?_|refine z10 ?_|refine z11 ?_|refine z12 ?_|refine z13 ?_|refine z19 ?_)|((with_reducible refine gR ?_);(refine z31 rfl ?_;intro K hK;(conv=>whnf)))))
        all_goals exact ⟨rfl,MemFits.pre 1 rfl⟩
      have h6:k=6:=by omega
      subst h6
      (repeat' (first|(with_reducible first|(refine hK _ _ ?_;clear hK K)|(refine hB ?_;clear hA hB A B)|(refine hK _ ?_;clear hK K))|((with_reducible refine z25 ?_);intro K hK;(conv=>whnf))|(with_reducible refine z0 ?_)|((first|((with_reducible refine NIf.decN ?s ?_);case s=>first|assumption|omega)|(with_reducible refine NN.a5 ?_)|((with_reducible refine NH.mk ?s ?_);case s=>(and_intros<;>with_reducible rfl)))<;>(conv=>whnf))|((with_reducible refine NCall.isF 43 ?_);(refine (hjo _ [32,111,114,32] (MemFits.pick (m':=[hpB F,_]) [0,2] (by decide) rfl) (by omega)).mono ?_;rintro _ _ ⟨rfl,rfl⟩;(conv=>whnf)))|(with_reducible first|refine z3 ?_|refine z4 ?_|refine z5 ?_|refine z6 ?_|refine z7 ?_|refine z8 ?_)|((with_reducible refine z29 ?_);intro A B hA hB;(conv=>whnf))|(with_reducible first|refine z1 ?_|refine z2 ?_|refine z9 ?_|refine z10 ?_|refine z11 ?_|refine z19 ?_)|((with_reducible refine gR ?_);(refine z31 rfl ?_;intro K hK;(conv=>whnf)))))
      all_goals exact ⟨rfl,MemFits.pre 1 rfl⟩
end Go.Proofs.YtaojbkphcnailaaDoor
namespace Go.Proofs.YtaojbkphcnailaaDoor
open Go.Sx
set_option maxRecDepth 20000
set_option linter.unusedSimpArgs false
set_option linter.unusedVariables false
set_option maxHeartbeats 4000000
set_option linter.unusedVariables false
theorem inner27_of (F:Heap) (k:Int) (p:Pd.T) (f v:Int) (l:List Po.T) (pu u:Value) (s:List UInt8) (hok:SlOk u l.length) (hpok:SlOk pu p.l.length) (hs:s.length≤4611686018427387904) (h:NCall Tryd.prog 17 [.agg (Po.cs (.mk k p f v l) pu u)] [hpB F] fun r m=>r = .str s∧m=[hpB F]) :
    NCall Tryd.prog 40 [.agg (Po.cs (.mk k p f v l) pu u)] [hpB F] fun r m=>r = .str (Po.innerT k s)∧m=[hpB F]:=by
  refine NCall.fits (K:=fun r m=>r = .str (Po.innerT k s)∧MemFits m [hpB F]) ?_ fun r m' h=>⟨r,_,rfl,h.2,h.1,rfl⟩
  obtain ⟨pk,pf,pv,pl⟩:=p
  simp only [po_cs,Pd.T.k,Pd.T.f,Pd.T.v,Pd.T.l] at *
  unfold Po.innerT
  refine ncall_of Tryd.func40 rfl (by decide) ?_
  by_cases hk:k=1∨k=2
  · rw [if_pos hk]
    rcases hk with rfl | rfl
    all_goals
      (repeat' (first|(with_reducible first|(refine hK _ _ ?_;clear hK K)|(refine hA ?_;clear hA hB A B)|(refine hK _ ?_;clear hK K))|((with_reducible first|refine z25 ?_|refine z26 ?_);intro K hK;(conv=>whnf))|(with_reducible refine z0 ?_)|((first|((with_reducible refine NIf.decY ?s ?_);case s=>with_reducible rfl)|((with_reducible refine NIf.decN ?s ?_);case s=>omega)|((with_reducible refine NIf.yes ?s ?_);case s=>rfl)|(with_reducible refine NN.a5 ?_)|((with_reducible refine NH.mk ?s ?_);case s=>(and_intros<;>with_reducible rfl))|((with_reducible refine NCall.isF 17 ?_);refine NCall.subE [0] (h) rfl (by decide) rfl rfl ?_))<;>(conv=>whnf))|(with_reducible first|refine z3 ?_|refine z4 ?_|refine z8 ?_)|((with_reducible refine z29 ?_);intro A B hA hB;(conv=>whnf))|(with_reducible first|refine z1 ?_|refine z2 ?_|refine z12 ?_)|((with_reducible refine gR ?_);(refine z31 rfl ?_;intro K hK;(conv=>whnf)))|((with_reducible refine gF ?_);(refine z33 rfl ?_;intro K hK;(conv=>whnf)))|((intro _;skip)<;>(conv=>whnf))))
      all_goals exact ⟨rfl,MemFits.pre 1 rfl⟩
  · rw [if_neg hk]
    (repeat' (first|(with_reducible first|(refine hK _ _ ?_;clear hK K)|(refine hB ?_;clear hA hB A B)|(refine hK _ ?_;clear hK K))|((with_reducible first|refine z25 ?_|refine z26 ?_);intro K hK;(conv=>whnf))|(with_reducible refine z0 ?_)|((first|((with_reducible refine NIf.decN ?s ?_);case s=>omega)|(with_reducible refine NN.a5 ?_)|((with_reducible refine NH.mk ?s ?_);case s=>(and_intros<;>first|with_reducible rfl|(simp only [List.length_append,List.length_cons,List.length_nil];omega)))|((with_reducible refine NCall.isF 17 ?_);refine NCall.subE [0] (h) rfl (by decide) rfl rfl ?_)|(with_reducible refine NS.keep ?_))<;>(conv=>whnf))|(with_reducible first|refine z3 ?_|refine z4 ?_|refine z6 ?_|refine z8 ?_)|((with_reducible refine z29 ?_);intro A B hA hB;(conv=>whnf))|(with_reducible first|refine z1 ?_|refine z2 ?_)|((with_reducible refine gR ?_);(refine z31 rfl ?_;intro K hK;(conv=>whnf)))|((with_reducible refine gF ?_);(refine z33 rfl ?_;intro K hK;(conv=>whnf)))|((intro _;skip)<;>(conv=>whnf))))
    all_goals first
      | exact ⟨rfl,MemFits.pre 1 rfl⟩
      | (exfalso;omega)
theorem filter27_c (F:Heap) (hF:TabF F) (p:Pd.T) (pu:Value) (hs:Pd.size p≤1000000000) (hf:Pd.fits p=true) (hpu:Pd.Row F pu p.l) :
    NCall Tryd.prog 41 [.agg (Pd.cs p pu)] [hpB F] fun r m=>r = .str (Po.filterT p)∧m=[hpB F]:=by
  refine NCall.fits (K:=fun r m=>r = .str (Po.filterT p)∧MemFits m [hpB F]) ?_ fun r m' h=>⟨r,_,rfl,h.2,h.1,rfl⟩
  have ct:=text26_c F hF _ p pu (Nat.le_refl _) hs hf hpu
  have hl:=Pd.text_len p hf
  have hpok:=hpu.ok
  by_cases h1:p.k=1
  · rw [show Po.filterT p=[105,100] from if_pos h1]
    clear ct hl hpu hf
    obtain ⟨pk,pf,pv,pl⟩:=p
    simp only [pd_cs,Pd.T.k,Pd.T.f,Pd.T.v,Pd.T.l] at *
    subst h1
    refine ncall_of Tryd.func41 rfl (by decide) ?_
    (repeat' (first|(with_reducible first|(refine hK _ _ ?_;clear hK K)|(refine hA ?_;clear hA hB A B)|(refine hK _ ?_;clear hK K))|((with_reducible refine z25 ?_);intro K hK;(conv=>whnf))|(with_reducible refine z0 ?_)|((first|((with_reducible refine NIf.decY ?s ?_);case s=>with_reducible rfl)|(with_reducible refine NN.a5 ?_)|((with_reducible refine NH.mk ?s ?_);case s=>(and_intros<;>with_reducible rfl)))<;>(conv=>whnf))|(with_reducible first|refine z3 ?_|refine z4 ?_|refine z5 ?_|refine z8 ?_)|((with_reducible refine z29 ?_);intro A B hA hB;(conv=>whnf))|(with_reducible first|refine z1 ?_|refine z2 ?_|refine z12 ?_|refine z13 ?_)|((with_reducible refine gR ?_);(refine z31 rfl ?_;intro K hK;(conv=>whnf)))|((with_reducible refine gF ?_);(refine z33 rfl ?_;intro K hK;(conv=>whnf)))|((intro _;skip)<;>(conv=>whnf))))
    all_goals exact ⟨rfl,MemFits.pre 1 rfl⟩
  by_cases h2:p.k=2
  · rw [show Po.filterT p=[100,114,111,112] from (if_neg h1).trans (if_pos h2)]
    clear ct hl hpu hf h1
    obtain ⟨pk,pf,pv,pl⟩:=p
    simp only [pd_cs,Pd.T.k,Pd.T.f,Pd.T.v,Pd.T.l] at *
    subst h2
    refine ncall_of Tryd.func41 rfl (by decide) ?_
    (repeat' (first|(with_reducible first|(refine hK _ _ ?_;clear hK K)|(refine hA ?_;clear hA hB A B)|(refine hB ?_;clear hA hB A B)|(refine hK _ ?_;clear hK K))|((with_reducible refine z25 ?_);intro K hK;(conv=>whnf))|(with_reducible refine z0 ?_)|((first|((with_reducible refine NIf.decY ?s ?_);case s=>with_reducible rfl)|((with_reducible refine NIf.decN ?s ?_);case s=>omega)|(with_reducible refine NN.a5 ?_)|((with_reducible refine NH.mk ?s ?_);case s=>(and_intros<;>with_reducible rfl)))<;>(conv=>whnf))|(with_reducible first|refine z3 ?_|refine z4 ?_|refine z5 ?_|refine z8 ?_)|((with_reducible refine z29 ?_);intro A B hA hB;(conv=>whnf))|(with_reducible first|refine z1 ?_|refine z2 ?_|refine z12 ?_|refine z13 ?_)|((with_reducible refine gR ?_);(refine z31 rfl ?_;intro K hK;(conv=>whnf)))|((with_reducible refine gF ?_);(refine z33 rfl ?_;intro K hK;(conv=>whnf)))|((intro _;skip)<;>(conv=>whnf))))
    all_goals exact ⟨rfl,MemFits.pre 1 rfl⟩
  rw [show Po.filterT p=[119,104,101,110,32]++Pd.text p from (if_neg h1).trans (if_neg h2)]
  generalize Pd.text p=t at *
  generalize Pd.size p=z at *
  clear hpu hf
  obtain ⟨pk,pf,pv,pl⟩:=p
  simp only [pd_cs,Pd.T.k,Pd.T.f,Pd.T.v,Pd.T.l] at *
  refine ncall_of Tryd.func41 rfl (by decide) ?_
  (repeat' (first|(with_reducible first|(refine hK _ _ ?_;clear hK K)|(refine hB ?_;clear hA hB A B)|(refine hK _ ?_;clear hK K))|((with_reducible refine z25 ?_);intro K hK;(conv=>whnf))|(with_reducible refine z0 ?_)|((first|((with_reducible refine NIf.decN ?s ?_);case s=>assumption)|(with_reducible refine NN.a5 ?_)|((with_reducible refine NH.mk ?s ?_);case s=>(and_intros<;>first|with_reducible rfl|(simp only [List.length_append,List.length_cons,List.length_nil];omega)))|((with_reducible refine NCall.isF 21 ?_);refine NCall.subE [0] (ct) rfl (by decide) rfl rfl ?_)|(with_reducible refine NS.keep ?_))<;>(conv=>whnf))|(with_reducible first|refine z3 ?_|refine z4 ?_|refine z5 ?_|refine z6 ?_|refine z8 ?_)|((with_reducible refine z29 ?_);intro A B hA hB;(conv=>whnf))|(with_reducible first|refine z1 ?_|refine z2 ?_|refine z9 ?_)|((with_reducible refine gR ?_);(refine z31 rfl ?_;intro K hK;(conv=>whnf)))|((with_reducible refine gF ?_);(refine z33 rfl ?_;intro K hK;(conv=>whnf)))|((intro _;skip)<;>(conv=>whnf))))
  all_goals first
    | exact ⟨rfl,MemFits.pre 1 rfl⟩
    | (exfalso;omega)
theorem text27_2 (F:Heap) (hF:TabF F) (pk pf pv:Int) (pl:List Pd.T) (f v:Int) (pu u:Value) (hok:SlOk u 0) (hpok:SlOk pu pl.length) (hf:0≤f∧f≤4) (hv:0≤v∧v≤255) :
    NCall Tryd.prog 17 [.agg [.int .i64 2,.int .i64 pk,.int .i64 pf,.int .i64 pv,.hs pu pl.length,.int .i64 f,.int .i64 v,.hs u 0]] [hpB F] fun r m=>r = .str (Pd.word f++([32,58,61,32]++Lib.itoa v))∧MemFits m [hpB F]:=by
  have ci:=itoa_c F hF v (by omega)
  have hln:=Lib.itoa_length_le v (by omega) (by omega)
  generalize Lib.itoa v=s at *
  have:f=0∨f=1∨f=2∨f=3∨f=4:=by omega
  refine ncall_of Tryd.func17 rfl (by decide) ?_
  rcases this with rfl | rfl | rfl | rfl | rfl
  all_goals (repeat' (first|(with_reducible first|(refine hK _ _ ?_;clear hK K)|(refine hA ?_;clear hA hB A B)|(refine hB ?_;clear hA hB A B)|(refine hK _ ?_;clear hK K))|((with_reducible refine z25 ?_);intro K hK;(conv=>whnf))|(with_reducible refine z0 ?_)|((first|(with_reducible refine NV.keep ?_)|((with_reducible refine NIf.decY ?s ?_);case s=>with_reducible rfl)|((with_reducible refine NIf.decN ?s ?_);case s=>omega)|(with_reducible first|refine NN.a2 ?_|refine NN.a5 ?_|refine NN.keep ?_)|((with_reducible refine NH.mk ?s ?_);case s=>(and_intros<;>first|with_reducible rfl|((with_reducible refine gKept ?_);exact rfl)|omega|exact Nat.le_of_ble_eq_true rfl|(simp only [List.length_append,List.length_cons,List.length_nil];omega)|rfl))|((with_reducible refine NCall.isF 42 ?_);refine NCall.subE [0] (ci) rfl (by decide) rfl rfl ?_)|(with_reducible refine NS.keep ?_))<;>(conv=>whnf))|(with_reducible refine st_ordSout ?_)|((with_reducible refine gNOK ?_);(first|(refine st_ordK1 rfl (by kernel_rfl) rfl ?_;intro K hK;(conv=>whnf))|refine st_ordK0 rfl (by kernel_rfl) ?_|refine st_ordKA rfl rfl (by kernel_rfl) (by intro h;cases h) ?_))|((with_reducible refine gNEK ?_);(first|(refine st_eachK ?_ ?_;(intro K hK;(conv=>whnf)))|exact st_eachK0))|((with_reducible refine gX ?_);(first|refine st_orderS [] rfl rfl (by kernel_rfl) _ rfl ?_|(with_reducible first|refine st_rounds 2 ?_|refine z3 ?_|refine z4 ?_|refine z5 ?_|refine z7 ?_|refine z8 ?_)|((with_reducible refine z29 ?_);intro A B hA hB;(conv=>whnf))))|(with_reducible first|refine z1 ?_|refine z2 ?_|refine z10 ?_|refine z11 ?_|refine z12 ?_|refine z13 ?_|refine z22 ?_)|((with_reducible refine gR ?_);(refine z31 rfl ?_;intro K hK;(conv=>whnf)))|((with_reducible refine gF ?_);(refine z33 rfl ?_;intro K hK;(conv=>whnf)))|((intro _;skip)<;>(conv=>whnf))))
  all_goals exact ⟨by simp [Pd.word],MemFits.pre 1 rfl⟩
theorem text27_c (F:Heap) (hF:TabF F):∀ (n:Nat) (x:Po.T) (pu u:Value),Po.tot x≤n→Po.tot x≤1000000000→Po.fits x=true→Po.At F x pu u →
    NCall Tryd.prog 17 [.agg (Po.cs x pu u)] [hpB F] fun r m=>r = .str (Po.text x)∧m=[hpB F]
  | 0,x,pu,u,hn,_,_,_=>absurd (Po.tot_pos x) (by omega)
  | n+1,⟨k,p,f,v,l⟩,pu,u,hn,hs,hf,hx=>by
    refine NCall.fits (K:=fun r m=>r = .str (Po.text (.mk k p f v l))∧MemFits m [hpB F]) ?_ fun r m' h=>⟨r,_,rfl,h.2,h.1,rfl⟩
    have hu:Po.Row F u l:=hx.l
    have hpu:Pd.Row F pu p.l:=hx.p
    have hok:=hu.ok
    have hpok:=hpu.ok
    have htl:=Po.text_len _ hf
    obtain ⟨hsh,hfl⟩:=Po.fits_iff.1 hf
    have e2:=Po.tot_mk k p f v l
    have hll:=Po.length_le l
    have htop:=Pd.top_lt f
    rw [e2] at hn hs htl
    by_cases h2:k=2
    · subst h2
      have hl0:l=[]:=List.length_eq_zero_iff.1 (by omega)
      subst hl0
      obtain ⟨pk,pf,pv,pl⟩:=p
      have:=text27_2 F hF pk pf pv pl f v pu u hok hpok (by omega) (by omega)
      rw [Po.text]
      exact this
    by_cases h1:k=1
    · subst h1
      have hr:Pd.right p=true:=by
        rcases hsh with h | h | h | h
        · exact h.2.1
        · omega
        · omega
        · omega
      have hl0:l=[]:=List.length_eq_zero_iff.1 (by omega)
      subst hl0
      have cf:=filter27_c F hF p pu (by omega) (Po.right_fits hr) hpu
      have hfl:=Po.filterT_len p (Po.right_fits hr)
      rw [Po.text,if_pos rfl]
      generalize Po.filterT p=t at *
      clear hx hu hpu hsh htl hr hf
      obtain ⟨pk,pf,pv,pl⟩:=p
      simp only [pd_cs,po_cs,Pd.T.k,Pd.T.f,Pd.T.v,Pd.T.l] at *
      refine ncall_of Tryd.func17 rfl (by decide) ?_
      (repeat' (first|(with_reducible first|(refine hK _ _ ?_;clear hK K)|(refine hA ?_;clear hA hB A B)|(refine hB ?_;clear hA hB A B)|(refine hK _ ?_;clear hK K))|((with_reducible refine z25 ?_);intro K hK;(conv=>whnf))|(with_reducible refine z0 ?_)|((first|((with_reducible refine NIf.decY ?s ?_);case s=>with_reducible rfl)|((with_reducible refine NIf.no ?s ?_);case s=>rfl)|(with_reducible refine NN.a5 ?_)|((with_reducible refine NH.mk ?s ?_);case s=>(and_intros<;>first|with_reducible rfl|omega))|((with_reducible refine NCall.isF 41 ?_);refine NCall.subE [0] (cf) rfl (by decide) rfl rfl ?_))<;>(conv=>whnf))|(with_reducible first|refine st_rounds 2 ?_|refine z3 ?_|refine z4 ?_|refine z5 ?_|refine z7 ?_|refine z8 ?_)|((with_reducible refine z29 ?_);intro A B hA hB;(conv=>whnf))|(with_reducible first|refine z1 ?_|refine z2 ?_|refine z10 ?_|refine z11 ?_|refine z12 ?_|refine z13 ?_|refine z22 ?_)|((with_reducible refine gR ?_);(refine z31 rfl ?_;intro K hK;(conv=>whnf)))|((with_reducible refine gF ?_);(refine z33 rfl ?_;intro K hK;(conv=>whnf)))|((intro _;skip)<;>(conv=>whnf))))
      all_goals exact ⟨rfl,MemFits.pre 1 rfl⟩
    have hpl:=Po.parts_len l
    have ci:∀ x∈l,∀ pA A,Po.At F x pA A→NCall Tryd.prog 40 [.agg (Po.cs x pA A)] [hpB F] fun r m=>r = .str (Po.innerT x.k (Po.text x))∧m=[hpB F]:=fun x hx pA A hA=>by
      have hlt:=Po.tot_lt (k:=k) (q:=p) (f:=f) (v:=v) hx
      rw [e2] at hlt
      have:=text27_c F hF n x pA A (by omega) (by omega) (hfl x hx) hA
      have hxl:=Po.text_len x (hfl x hx)
      obtain ⟨xk,xp,xf,xv,xl⟩:=x
      exact inner27_of F xk xp xf xv xl pA A _ hA.l.ok hA.p.ok (by omega) this
    have hsum:=Po.parts_sum l hfl
    have hj3:=Nat.le_trans (Pd.join_le [59,32] (Po.parts l)) (Pd.sum_le (a:=([59,32]:List UInt8).length) (b:=6) _ (by decide))
    have hj4:=Nat.le_trans (Pd.join_le [32,124,32] (Po.parts l)) (Pd.sum_le (a:=([32,124,32]:List UInt8).length) (b:=6) _ (by decide))
    have hj5:=Nat.le_trans (Pd.join_le [32,101,108,115,101,32] (Po.parts l)) (Pd.sum_le (a:=([32,101,108,115,101,32]:List UInt8).length) (b:=6) _ (by decide))
    have hT:Po.text (.mk k p f v l)=(if k=5 then Po.headT p else [])++Lib.join (Po.parts l) (Po.sepOf k):=by rw [Po.text,if_neg h1,if_neg h2]
    have hp5:k=5→Pd.right p=true:=fun e=>by
      rcases hsh with h | h | h | h
      · exact h.2.1
      · omega
      · omega
      · exact h.2.1
    have hk:k=3∨k=4∨k=5:=by omega
    have cp:k=5→NCall Tryd.prog 21 [.agg (Pd.cs p pu)] [hpB F] fun r m=>r = .str (Pd.text p)∧m=[hpB F]:=fun e=>text26_c F hF _ p pu (Nat.le_refl _) (by omega) (Po.right_fits (hp5 e)) hpu
    have hpt:k=5→(Pd.text p).length+7≤40*Pd.size p:=fun e=>Pd.text_len p (Po.right_fits (hp5 e))
    rw [hT]
    unfold Po.headT
    clear hT htl hp5 hx hpu hf hsh
    generalize Pd.text p=tp at *
    generalize Pd.size p=zp at *
    obtain ⟨pk,pf,pv,pl⟩:=p
    simp only [pd_cs,po_cs,Pd.T.k,Pd.T.f,Pd.T.v,Pd.T.l] at *
    refine ncall_of Tryd.func17 rfl (by decide) ?_
    (repeat' (first|(with_reducible first|(refine hK _ _ ?_;clear hK K)|(refine hK _ ?_;clear hK K))|((with_reducible refine z25 ?_);intro K hK;(conv=>whnf))|(with_reducible refine z0 ?_)|((first|(with_reducible refine NN.a5 ?_)|((with_reducible refine NH.mk ?s ?_);case s=>(and_intros<;>first|with_reducible rfl|omega)))<;>(conv=>whnf))|(with_reducible first|refine z3 ?_|refine z4 ?_|refine z5 ?_|refine z1 ?_|refine z2 ?_)|((with_reducible refine gF ?_);(refine z33 rfl ?_;intro K hK;(conv=>whnf)))|((intro _;skip)<;>(conv=>whnf))))
    refine st_auto (α:=Value × Nat) (fun (w,i)=>i≤l.length) (fun (w,i)=>[.keep,.keep,.keep,.set (.sl 2 w i),.keep,.drop,.keep,.keep,.keep,.set (.int .i64 i),.drop,.drop,.drop,.drop,.drop,.drop,.drop,.drop,.drop,.keep,.keep,.keep,.keep,.keep,.keep,.keep,.keep,.keep,.keep,.keep,.keep,.keep,.keep,.keep,.keep,.keep,.keep,.keep,.keep,.keep,.keep,.keep,.keep,.keep,.keep,.keep,.keep,.keep,.keep,.keep,.keep,.keep,.keep,.keep,.keep]) (fun (w,i)=>[.keep,.keep,.set ⟨addrOf w,strAV (Po.parts (l.take i)),.row w 9 1 i⟩]) (fun (w,i)=>l.length - i) (.slice none 0 0,0) (Nat.zero_le _) ?_ ((MemFits.nilRow _ 9 1).trans (MemFits.congr rfl)) ?_
    · repeat (first|exact FitsSl.nil|refine FitsSl.any ?_|refine FitsSl.cons (Fit1.int (by first | rfl | omega)) ?_|refine FitsSl.cons (Fit1.str rfl) ?_|refine FitsSl.cons (Fit1.same (by intro h;cases h) (by with_reducible rfl)) ?_|refine FitsSl.cons Fit1.nil_sl ?_)
    (intro ⟨w,i⟩ hi;intro K hK;(conv=>whnf);refine hK _ _ ?_;clear hK K)
    dsimp only
    have hi:i≤l.length:=hi
    by_cases hlt:i<l.length
    · have hx:l[i]?=some l[i]:=List.getElem?_eq_getElem hlt
      obtain ⟨pA,pcap,A,cap,hA,c0,c1,c2,c3,c4,c5,c6,c7⟩:=hu.get hx
      have c:=ci _ (List.mem_of_getElem? hx) _ _ hA
      have hAo:=hA.l.ok
      have hAp:=hA.p.ok
      have hnx:=Po.parts_take hlt
      have hpi:=Po.parts_len (l.take i)
      rw [List.length_take,Nat.min_eq_left hi] at hpi
      have hav:=strAV_len (Po.parts (l.take i))
      rw [hpi] at hav
      have hav2:strAV (Po.parts (l.take (i+1)))=strAV (Po.parts (l.take i))++[.str (Po.innerT l[i].k (Po.text l[i]))]:=by rw [hnx];unfold strAV;rw [List.map_append];rfl
      clear ci hj3 hj4 hj5 hsum hnx cp
      generalize Po.innerT l[i].k (Po.text l[i])=y at *
      generalize l[i]=x at *
      generalize strAV (Po.parts (l.take i))=B at *
      obtain ⟨xk,⟨xpk,xpf,xpv,xpl⟩,xf,xv,xl⟩:=x
      simp only [Po.cs,Po.T.k,Po.T.p,Po.T.f,Po.T.v,Po.T.l,Pd.T.k,Pd.T.f,Pd.T.v,Pd.T.l] at c c0 c1 c2 c3 c4 c5 c6 c7 hAo hAp
      (repeat' (first|(with_reducible first|(refine hK _ _ ?_;clear hK K)|(refine hA ?_;clear hA hB A B))|((with_reducible refine z25 ?_);intro K hK;(conv=>whnf))|(with_reducible refine z0 ?_)|((first|((with_reducible refine NV.i64 ?s ?_);case s=>omega)|((with_reducible refine NIf.decY ?s ?_);case s=>omega)|(with_reducible first|refine NN.cast ?_|refine NN.keep ?_)|((with_reducible refine NH.mk ?s ?_);case s=>(and_intros<;>first|with_reducible rfl|((with_reducible refine gOnes ?_);rfl)|((with_reducible refine gLen ?_);rfl)|omega))|((with_reducible refine NCall.isF 40 ?_);refine NCall.subE [0] (c) rfl (by decide) rfl rfl ?_)|(with_reducible refine NLd.of (by with_reducible assumption) ?_))<;>(conv=>whnf))|(with_reducible first|refine z3 ?_|refine z4 ?_|refine z5 ?_|refine z6 ?_)|((with_reducible refine z29 ?_);intro A B hA hB;(conv=>whnf))|(with_reducible first|refine z1 ?_|refine z2 ?_|refine z9 ?_)|((intro _;skip)<;>(conv=>whnf))))
      all_goals
        rename_i v9
        refine st_round (v9,i+1) hlt (by show l.length - (i+1)<l.length - i;omega) ?_ (MemFits.pre 3 ?_)
        · dsimp only
          repeat (first|exact FitsSl.nil|refine FitsSl.any ?_|refine FitsSl.cons (Fit1.int (by first | rfl | omega)) ?_|refine FitsSl.cons (Fit1.str rfl) ?_|refine FitsSl.cons (Fit1.same (by intro h;cases h) (by with_reducible rfl)) ?_)
        · simp only [autoM,List.take,hav2]
          rfl
    · have hkl:i=l.length:=by omega
      subst hkl
      rw [List.take_length]
      clear ci
      have hjo:=fun m sep hm h1=>join_own F w (Po.parts l) sep 9 m hm h1 (by omega) 2
      rw [hpl] at hjo
      rcases hk with rfl | rfl | rfl
      · (repeat' (first|(with_reducible first|(refine hK _ _ ?_;clear hK K)|(refine hA ?_;clear hA hB A B)|(refine hB ?_;clear hA hB A B)|(refine hK _ ?_;clear hK K))|((with_reducible refine z25 ?_);intro K hK;(conv=>whnf))|(with_reducible refine z0 ?_)|((first|((with_reducible refine NIf.decY ?s ?_);case s=>with_reducible rfl)|((with_reducible refine NIf.decN ?s ?_);case s=>first|assumption|omega)|(with_reducible refine NN.a5 ?_)|((with_reducible refine NH.mk ?s ?_);case s=>(and_intros<;>with_reducible rfl)))<;>(conv=>whnf))|((with_reducible refine NCall.isF 43 ?_);(refine (hjo _ [59,32] (MemFits.pick (m':=[hpB F,_]) [0,2] (by decide) rfl) (by omega)).mono ?_;rintro _ _ ⟨rfl,rfl⟩;(conv=>whnf)))|(with_reducible first|refine z3 ?_|refine z4 ?_|refine z5 ?_|refine z7 ?_|refine z8 ?_)|((with_reducible refine z29 ?_);intro A B hA hB;(conv=>whnf))|(with_reducible first|refine z1 ?_|refine z2 ?_|refine z10 ?_|refine z11 ?_|refine z12 ?_|refine z13 ?_|refine z19 ?_)|((with_reducible refine gR ?_);(refine z31 rfl ?_;intro K hK;(conv=>whnf)))))
        all_goals exact ⟨rfl,MemFits.pre 1 rfl⟩
      · (repeat' (first|(with_reducible first|(refine hK _ _ ?_;clear hK K)|(refine hA ?_;clear hA hB A B)|(refine hB ?_;clear hA hB A B)|(refine hK _ ?_;clear hK K))|((with_reducible refine z25 ?_);intro K hK;(conv=>whnf))|(with_reducible refine z0 ?_)|((first|((with_reducible refine NIf.decY ?s ?_);case s=>with_reducible rfl)|((with_reducible refine NIf.decN ?s ?_);case s=>first|assumption|omega)|(with_reducible refine NN.a5 ?_)|((with_reducible refine NH.mk ?s ?_);case s=>(and_intros<;>with_reducible rfl)))<;>(conv=>whnf))|((with_reducible refine NCall.isF 43 ?_);(refine (hjo _ [32,124,32] (MemFits.pick (m':=[hpB F,_]) [0,2] (by decide) rfl) (by omega)).mono ?_;rintro _ _ ⟨rfl,rfl⟩;(conv=>whnf)))|(with_reducible first|refine z3 ?_|refine z4 ?_|refine z5 ?_|refine z7 ?_|refine z8 ?_)|((with_reducible refine z29 ?_);intro A B hA hB;(conv=>whnf))|(with_reducible first|refine z1 ?_|refine z2 ?_|refine z10 ?_|refine z11 ?_|refine z12 ?_|refine z13 ?_|refine z19 ?_)|((with_reducible refine gR ?_);(refine z31 rfl ?_;intro K hK;(conv=>whnf)))))
        all_goals exact ⟨rfl,MemFits.pre 1 rfl⟩
      · have cp:=cp rfl
        have hpt:=hpt rfl
        (repeat' (first|(with_reducible first|(refine hK _ _ ?_;clear hK K)|(refine hB ?_;clear hA hB A B)|(refine hK _ ?_;clear hK K))|((with_reducible refine z25 ?_);intro K hK;(conv=>whnf))|(with_reducible refine z0 ?_)|((first|((with_reducible refine NIf.decN ?s ?_);case s=>first|assumption|omega)|(with_reducible refine NN.a5 ?_)|((with_reducible refine NH.mk ?s ?_);case s=>(and_intros<;>first|with_reducible rfl|(simp only [List.length_append,List.length_cons,List.length_nil];omega)))|((with_reducible refine NCall.isF 21 ?_);refine NCall.subE [0] (cp) rfl (by decide) rfl rfl ?_)|(with_reducible refine NS.keep ?_))<;>(conv=>whnf))|((with_reducible refine NCall.isF 43 ?_);(refine (hjo _ [32,101,108,115,101,32] (MemFits.pick (m':=[hpB F,_]) [0,2] (by decide) rfl) (by omega)).mono ?_;rintro _ _ ⟨rfl,rfl⟩;(conv=>whnf)))|(with_reducible first|refine z3 ?_|refine z4 ?_|refine z5 ?_|refine z6 ?_|refine z7 ?_|refine z8 ?_)|((with_reducible refine z29 ?_);intro A B hA hB;(conv=>whnf))|(with_reducible first|refine z1 ?_|refine z2 ?_|refine z9 ?_|refine z10 ?_|refine z11 ?_|refine z19 ?_)|((with_reducible refine gR ?_);(refine z31 rfl ?_;intro K hK;(conv=>whnf)))))
        all_goals exact ⟨by simp [Po.sepOf],MemFits.pre 1 rfl⟩
end Go.Proofs.YtaojbkphcnailaaDoor
