import Derived.Test.YtaojbkphcnailaaDoorJ12
import Derived.Test.YtaojbkphcnailaaDoorJ14
namespace Go.Proofs.YtaojbkphcnailaaDoor
open Go.Sx
set_option maxRecDepth 20000
set_option linter.unusedSimpArgs false
set_option linter.unusedVariables false
set_option maxHeartbeats 4000000
set_option linter.unusedVariables false
section
variable (F:Heap)
theorem deep27_c:∀ (n:Nat) (x:Po.T) (pu u:Value),Po.tot x≤n→Po.tot x≤4611686018427387904→Po.At F x pu u →
    NCall Tryd.prog 51 [.agg (Po.cs x pu u)] [hpB F] fun r m=>r = .int .i64 (Po.deep x:Nat)∧m=[hpB F]
  | 0,x,pu,u,hn,_,_=>absurd (Po.tot_pos x) (by omega)
  | n+1,⟨k,p,f,v,l⟩,pu,u,hn,hs,hx=>by
    refine NCall.fits (K:=fun r m=>r = .int .i64 (Po.deep (.mk k p f v l):Nat)∧MemFits m [hpB F]) ?_ fun r m' h=>⟨r,_,rfl,h.2,h.1,rfl⟩
    have hu:Po.Row F u l:=hx.l
    have hpu:Pd.Row F pu p.l:=hx.p
    have hok:=hu.ok
    have hpok:=hpu.ok
    have e:=Po.tot_mk k p f v l
    have hll:=Po.length_le l
    have ih:∀ y∈l,∀ pw w,Po.At F y pw w→_:=fun y hy pw w hw=>deep27_c n y pw w (by have:=Po.tot_lt (k:=k) (q:=p) (f:=f) (v:=v) hy;omega) (by have:=Po.tot_lt (k:=k) (q:=p) (f:=f) (v:=v) hy;omega) hw
    have hd:Po.deep (.mk k p f v l)=1+Po.deepL l:=by rw [Po.deep]
    rw [hd]
    refine ncall_of Tryd.func51 rfl (by decide) ?_
    rw [po_cs]
    (repeat' (first|(with_reducible first|(refine hK _ _ ?_;clear hK K)|(refine hK _ ?_;clear hK K))|((with_reducible refine z25 ?_);intro K hK;(conv=>whnf))|(with_reducible refine z0 ?_)|((first|(with_reducible refine NN.a5 ?_)|((with_reducible refine NH.mk ?s ?_);case s=>(and_intros<;>first|with_reducible rfl|omega)))<;>(conv=>whnf))|(with_reducible first|refine z3 ?_|refine z4 ?_|refine z5 ?_|refine z1 ?_|refine z2 ?_)|((with_reducible refine gF ?_);(refine z33 rfl ?_;intro K hK;(conv=>whnf)))|((intro _;skip)<;>(conv=>whnf))))
    refine st_auto (α:=Nat) (fun i=>i≤l.length) (fun i=>[.keep,.keep,.keep,.set (.int .i64 (Po.deepL (l.take i):Nat)),.keep,.drop,.keep,.keep,.keep,.set (.int .i64 i),.drop,.drop,.drop,.drop,.drop,.drop,.drop,.drop,.keep,.keep]) (fun _=>[]) (fun i=>l.length - i) 0 (Nat.zero_le _) ?_ (MemFits.eq rfl) ?_
    · repeat (first|exact FitsSl.nil|refine FitsSl.any ?_|refine FitsSl.cons (Fit1.int (by  simp [Po.deepL])) ?_|refine FitsSl.cons (Fit1.same (by intro h;cases h) (by with_reducible rfl)) ?_)
    (intro i hi;intro K hK;(conv=>whnf);refine hK _ _ ?_;clear hK K)
    by_cases hlt:i<l.length
    · have hx:l[i]?=some l[i]:=List.getElem?_eq_getElem hlt
      obtain ⟨pA,pcap,A,cap,hA,c0,c1,c2,c3,c4,c5,c6,c7⟩:=hu.get hx
      have hmem:=List.mem_of_getElem? hx
      have hnx:=Po.deepL_take hlt
      have hle:=Po.deepL_take_le (l:=l) (k:=i)
      have hle2:=Po.deepL_take_le (l:=l) (k:=i+1)
      have hAo:=hA.l.ok
      have hAp:=hA.p.ok
      have c:=ih _ hmem _ _ hA
      clear ih
      generalize l[i]=y at *
      generalize Po.deep y=sx at *
      generalize Po.deepL (l.take i)=si at *
      obtain ⟨yk,⟨ypk,ypf,ypv,ypl⟩,yf,yv,yl⟩:=y
      simp only [Po.cs,Po.T.k,Po.T.p,Po.T.f,Po.T.v,Po.T.l,Pd.T.k,Pd.T.f,Pd.T.v,Pd.T.l] at c c0 c1 c2 c3 c4 c5 c6 c7 hAo hAp
      (repeat' (first|(with_reducible first|(refine hK _ _ ?_;clear hK K)|(refine hA ?_;clear hA hB A B))|((with_reducible refine z25 ?_);intro K hK;(conv=>whnf))|(with_reducible refine z0 ?_)|((first|((with_reducible refine NV.i64 ?s ?_);case s=>omega)|(with_reducible refine NV.keep ?_)|((with_reducible refine NIf.decY ?s ?_);case s=>omega)|(with_reducible first|refine NN.cast ?_|refine NN.keep ?_)|((with_reducible refine NH.mk ?s ?_);case s=>(and_intros<;>first|with_reducible rfl|((with_reducible refine gOnes ?_);rfl)|((with_reducible refine gLen ?_);rfl)|omega))|((with_reducible refine NCall.isF 51 ?_);refine NCall.subE [0] (c) rfl (by decide) rfl rfl ?_)|(with_reducible refine NLd.of (by with_reducible assumption) ?_))<;>(conv=>whnf))|(with_reducible first|refine z3 ?_|refine z4 ?_|refine z5 ?_|refine z6 ?_)|((with_reducible refine z29 ?_);intro A B hA hB;(conv=>whnf))|(with_reducible first|refine z1 ?_|refine z2 ?_|refine z9 ?_)|((intro _;skip)<;>(conv=>whnf))))
      refine st_round (i+1) hlt (by omega) ?_ (MemFits.pre 2 rfl)
      repeat (first|exact FitsSl.nil|refine FitsSl.any ?_|refine FitsSl.cons (Fit1.int (by  omega)) ?_|refine FitsSl.cons (Fit1.same (by intro h;cases h) (by with_reducible rfl)) ?_)
    · have hkl:i=l.length:=by omega
      subst hkl
      have hle:=Po.deepL_take_le (l:=l) (k:=l.length)
      rw [List.take_length] at *
      clear ih
      (repeat' (first|(with_reducible first|(refine hK _ _ ?_;clear hK K)|(refine hB ?_;clear hA hB A B)|(refine hK _ ?_;clear hK K))|((with_reducible refine z25 ?_);intro K hK;(conv=>whnf))|(with_reducible refine z0 ?_)|((first|((with_reducible refine NV.i64 ?s ?_);case s=>omega)|((with_reducible refine NIf.decN ?s ?_);case s=>omega))<;>(conv=>whnf))|(with_reducible first|refine z3 ?_|refine z4 ?_|refine z7 ?_|refine z8 ?_)|((with_reducible refine z29 ?_);intro A B hA hB;(conv=>whnf))|(with_reducible first|refine z1 ?_|refine z2 ?_|refine z10 ?_|refine z11 ?_|refine z19 ?_)|((with_reducible refine gR ?_);(refine z31 rfl ?_;intro K hK;(conv=>whnf)))))
      all_goals exact ⟨by congr 1;omega,MemFits.pre 1 rfl⟩
theorem wide27_c:∀ (n:Nat) (x:Po.T) (pu u:Value),Po.tot x≤n→Po.tot x≤4611686018427387904→Po.At F x pu u →
    NCall Tryd.prog 53 [.agg (Po.cs x pu u)] [hpB F] fun r m=>r = .int .i64 (Po.wide x:Nat)∧m=[hpB F]
  | 0,x,pu,u,hn,_,_=>absurd (Po.tot_pos x) (by omega)
  | n+1,⟨k,p,f,v,l⟩,pu,u,hn,hs,hx=>by
    refine NCall.fits (K:=fun r m=>r = .int .i64 (Po.wide (.mk k p f v l):Nat)∧MemFits m [hpB F]) ?_ fun r m' h=>⟨r,_,rfl,h.2,h.1,rfl⟩
    have hu:Po.Row F u l:=hx.l
    have hpu:Pd.Row F pu p.l:=hx.p
    have hok:=hu.ok
    have hpok:=hpu.ok
    have e:=Po.tot_mk k p f v l
    have hll:=Po.length_le l
    have ih:∀ y∈l,∀ pw w,Po.At F y pw w→_:=fun y hy pw w hw=>wide27_c n y pw w (by have:=Po.tot_lt (k:=k) (q:=p) (f:=f) (v:=v) hy;omega) (by have:=Po.tot_lt (k:=k) (q:=p) (f:=f) (v:=v) hy;omega) hw
    refine ncall_of Tryd.func53 rfl (by decide) ?_
    rw [po_cs]
    by_cases h3:k=3
    · subst h3
      rw [show Po.wide (.mk 3 p f v l)=Po.wideS 1 l by rw [Po.wide];rfl]
      (repeat' (first|(with_reducible first|(refine hK _ _ ?_;clear hK K)|(refine hA ?_;clear hA hB A B)|(refine hK _ ?_;clear hK K))|((with_reducible refine z25 ?_);intro K hK;(conv=>whnf))|(with_reducible refine z0 ?_)|((first|((with_reducible refine NIf.decY ?s ?_);case s=>with_reducible rfl)|(with_reducible refine NN.a5 ?_)|((with_reducible refine NH.mk ?s ?_);case s=>(and_intros<;>first|with_reducible rfl|omega)))<;>(conv=>whnf))|(with_reducible first|refine z3 ?_|refine z4 ?_|refine z5 ?_)|((with_reducible refine z29 ?_);intro A B hA hB;(conv=>whnf))|(with_reducible first|refine z1 ?_|refine z2 ?_)|((with_reducible refine gF ?_);(refine z33 rfl ?_;intro K hK;(conv=>whnf)))|((intro _;skip)<;>(conv=>whnf))))
      refine st_auto (α:=Nat) (fun i=>i≤l.length) (fun i=>[.keep,.keep,.keep,.set (.int .i64 (Po.wideS 1 (l.take i):Nat)),.keep,.drop,.keep,.keep,.keep,.keep,.keep,.keep,.keep,.keep,.keep,.keep,.keep,.set (.int .i64 i),.drop,.drop,.drop,.drop,.drop,.drop,.drop,.drop,.drop,.keep,.keep,.keep,.keep,.keep,.keep,.keep,.keep,.keep,.keep,.keep,.keep,.keep,.keep,.keep,.keep,.keep,.keep,.keep,.keep,.keep,.keep,.keep,.keep,.keep,.keep,.keep,.keep,.keep,.keep]) (fun _=>[]) (fun i=>l.length - i) 0 (Nat.zero_le _) ?_ (MemFits.eq rfl) ?_
      · repeat (first|exact FitsSl.nil|refine FitsSl.any ?_|refine FitsSl.cons (Fit1.int (by  simp [Po.wideS])) ?_|refine FitsSl.cons (Fit1.bool rfl) ?_|refine FitsSl.cons (Fit1.same (by intro h;cases h) (by with_reducible rfl)) ?_)
      (intro i hi;intro K hK;(conv=>whnf);refine hK _ _ ?_;clear hK K)
      by_cases hlt:i<l.length
      · have hx:l[i]?=some l[i]:=List.getElem?_eq_getElem hlt
        obtain ⟨pA,pcap,A,cap,hA,c0,c1,c2,c3,c4,c5,c6,c7⟩:=hu.get hx
        have hmem:=List.mem_of_getElem? hx
        have hnx:=Po.wideS_take 1 hlt
        have hw:=Po.wide_le l[i]
        have hle:=Po.wideS_le (l.take i) 1 (by decide)
        have hmul:Po.wideS 1 (l.take i)*Po.wide l[i]≤1000000:=Nat.le_trans (Nat.mul_le_mul hle hw) (by decide)
        have hAo:=hA.l.ok
        have hAp:=hA.p.ok
        have c:=ih _ hmem _ _ hA
        clear ih
        generalize l[i]=y at *
        generalize Po.wide y=sx at *
        generalize Po.wideS 1 (l.take i)=si at *
        have hcast:((si*sx:Nat):Int)=(si:Int)*sx:=Int.natCast_mul _ _
        generalize hpr:(si:Int)*sx=pr at *
        generalize hpn:si*sx=pn at *
        obtain ⟨yk,⟨ypk,ypf,ypv,ypl⟩,yf,yv,yl⟩:=y
        simp only [Po.cs,Po.T.k,Po.T.p,Po.T.f,Po.T.v,Po.T.l,Pd.T.k,Pd.T.f,Pd.T.v,Pd.T.l] at c c0 c1 c2 c3 c4 c5 c6 c7 hAo hAp
        (repeat' (first|(with_reducible first|(refine hK _ _ ?_;clear hK K)|(refine hA ?_;clear hA hB A B))|((with_reducible refine z25 ?_);intro K hK;(conv=>whnf))|(with_reducible refine z0 ?_)|((first|((with_reducible refine NV.i64 ?s ?_);case s=>omega)|(with_reducible refine NV.keep ?_)|((with_reducible refine NIf.decY ?s ?_);case s=>omega)|(with_reducible first|refine NN.cast ?_|refine NN.keep ?_)|((with_reducible refine NH.mk ?s ?_);case s=>(and_intros<;>first|with_reducible rfl|((with_reducible refine gOnes ?_);rfl)|((with_reducible refine gLen ?_);rfl)|omega))|((with_reducible refine NCall.isF 53 ?_);refine NCall.subE [0] (c) rfl (by decide) rfl rfl ?_)|(with_reducible refine NLd.of (by with_reducible assumption) ?_))<;>(conv=>whnf))|(with_reducible first|refine z3 ?_|refine z4 ?_|refine z5 ?_|refine z6 ?_)|((with_reducible refine z29 ?_);intro A B hA hB;(conv=>whnf))|(with_reducible first|refine z1 ?_|refine z2 ?_|refine z9 ?_)|((intro _;skip)<;>(conv=>whnf))))
        refine st_round (i+1) hlt (by omega) ?_ (MemFits.pre 2 rfl)
        repeat (first|exact FitsSl.nil|refine FitsSl.any ?_|refine FitsSl.cons (Fit1.int (by  (rw [hnx];omega))) ?_|refine FitsSl.cons (Fit1.int (by first | rfl | omega)) ?_|refine FitsSl.cons (Fit1.bool rfl) ?_|refine FitsSl.cons (Fit1.same (by intro h;cases h) (by with_reducible rfl)) ?_)
      · have hkl:i=l.length:=by omega
        subst hkl
        rw [List.take_length] at *
        clear ih
        (repeat' (first|(with_reducible first|(refine hK _ _ ?_;clear hK K)|(refine hB ?_;clear hA hB A B)|(refine hK _ ?_;clear hK K))|((with_reducible refine z25 ?_);intro K hK;(conv=>whnf))|(with_reducible refine z0 ?_)|(((with_reducible refine NIf.decN ?s ?_);case s=>omega)<;>(conv=>whnf))|(with_reducible first|refine z3 ?_|refine z4 ?_|refine z7 ?_|refine z8 ?_)|((with_reducible refine z29 ?_);intro A B hA hB;(conv=>whnf))|(with_reducible first|refine z1 ?_|refine z2 ?_|refine z9 ?_|refine z10 ?_|refine z11 ?_|refine z19 ?_)|((with_reducible refine gR ?_);(refine z31 rfl ?_;intro K hK;(conv=>whnf)))))
        all_goals exact ⟨rfl,MemFits.pre 1 rfl⟩
    by_cases h4:k=4
    · subst h4
      rw [show Po.wide (.mk 4 p f v l)=Po.wideU 0 l by rw [Po.wide];rfl]
      (repeat' (first|(with_reducible first|(refine hK _ _ ?_;clear hK K)|(refine hA ?_;clear hA hB A B)|(refine hB ?_;clear hA hB A B)|(refine hK _ ?_;clear hK K))|((with_reducible refine z25 ?_);intro K hK;(conv=>whnf))|(with_reducible refine z0 ?_)|((first|((with_reducible refine NIf.decY ?s ?_);case s=>with_reducible rfl)|((with_reducible refine NIf.decN ?s ?_);case s=>assumption)|(with_reducible refine NN.a5 ?_)|((with_reducible refine NH.mk ?s ?_);case s=>(and_intros<;>first|with_reducible rfl|omega)))<;>(conv=>whnf))|(with_reducible first|refine z3 ?_|refine z4 ?_|refine z5 ?_)|((with_reducible refine z29 ?_);intro A B hA hB;(conv=>whnf))|(with_reducible first|refine z1 ?_|refine z2 ?_)|((with_reducible refine gF ?_);(refine z33 rfl ?_;intro K hK;(conv=>whnf)))|((intro _;skip)<;>(conv=>whnf))))
      refine st_auto (α:=Nat) (fun i=>i≤l.length) (fun i=>[.keep,.keep,.keep,.set (.int .i64 (Po.wideU 0 (l.take i):Nat)),.keep,.keep,.keep,.drop,.keep,.keep,.keep,.keep,.keep,.keep,.keep,.keep,.keep,.keep,.keep,.keep,.keep,.keep,.keep,.keep,.keep,.keep,.keep,.keep,.keep,.keep,.keep,.keep,.set (.int .i64 i),.drop,.drop,.drop,.drop,.drop,.drop,.drop,.drop,.drop,.keep,.keep,.keep,.keep,.keep,.keep,.keep,.keep,.keep,.keep,.keep,.keep,.keep,.keep,.keep]) (fun _=>[]) (fun i=>l.length - i) 0 (Nat.zero_le _) ?_ (MemFits.eq rfl) ?_
      · repeat (first|exact FitsSl.nil|refine FitsSl.any ?_|refine FitsSl.cons (Fit1.int (by  simp [Po.wideU])) ?_|refine FitsSl.cons (Fit1.bool rfl) ?_|refine FitsSl.cons (Fit1.same (by intro h;cases h) (by with_reducible rfl)) ?_)
      (intro i hi;intro K hK;(conv=>whnf);refine hK _ _ ?_;clear hK K)
      by_cases hlt:i<l.length
      · have hx:l[i]?=some l[i]:=List.getElem?_eq_getElem hlt
        obtain ⟨pA,pcap,A,cap,hA,c0,c1,c2,c3,c4,c5,c6,c7⟩:=hu.get hx
        have hmem:=List.mem_of_getElem? hx
        have hnx:=Po.wideU_take 0 hlt
        have hw:=Po.wide_le l[i]
        have hle:=Po.wideU_le (l.take i) 0 (by decide)
        have hAo:=hA.l.ok
        have hAp:=hA.p.ok
        have c:=ih _ hmem _ _ hA
        clear ih
        generalize l[i]=y at *
        generalize Po.wide y=sx at *
        generalize Po.wideU 0 (l.take i)=si at *
        obtain ⟨yk,⟨ypk,ypf,ypv,ypl⟩,yf,yv,yl⟩:=y
        simp only [Po.cs,Po.T.k,Po.T.p,Po.T.f,Po.T.v,Po.T.l,Pd.T.k,Pd.T.f,Pd.T.v,Pd.T.l] at c c0 c1 c2 c3 c4 c5 c6 c7 hAo hAp
        (repeat' (first|(with_reducible first|(refine hK _ _ ?_;clear hK K)|(refine hA ?_;clear hA hB A B))|((with_reducible refine z25 ?_);intro K hK;(conv=>whnf))|(with_reducible refine z0 ?_)|((first|((with_reducible refine NV.i64 ?s ?_);case s=>omega)|(with_reducible refine NV.keep ?_)|((with_reducible refine NIf.decY ?s ?_);case s=>omega)|(with_reducible first|refine NN.cast ?_|refine NN.keep ?_)|((with_reducible refine NH.mk ?s ?_);case s=>(and_intros<;>first|with_reducible rfl|((with_reducible refine gOnes ?_);rfl)|((with_reducible refine gLen ?_);rfl)|omega))|((with_reducible refine NCall.isF 53 ?_);refine NCall.subE [0] (c) rfl (by decide) rfl rfl ?_)|(with_reducible refine NLd.of (by with_reducible assumption) ?_))<;>(conv=>whnf))|(with_reducible first|refine z3 ?_|refine z4 ?_|refine z5 ?_|refine z6 ?_)|((with_reducible refine z29 ?_);intro A B hA hB;(conv=>whnf))|(with_reducible first|refine z1 ?_|refine z2 ?_|refine z9 ?_)|((intro _;skip)<;>(conv=>whnf))))
        refine st_round (i+1) hlt (by omega) ?_ (MemFits.pre 2 rfl)
        repeat (first|exact FitsSl.nil|refine FitsSl.any ?_|refine FitsSl.cons (Fit1.int (by  (rw [hnx];omega))) ?_|refine FitsSl.cons (Fit1.int (by first | rfl | omega)) ?_|refine FitsSl.cons (Fit1.bool rfl) ?_|refine FitsSl.cons (Fit1.same (by intro h;cases h) (by with_reducible rfl)) ?_)
      · have hkl:i=l.length:=by omega
        subst hkl
        rw [List.take_length] at *
        clear ih
        (repeat' (first|(with_reducible first|(refine hK _ _ ?_;clear hK K)|(refine hB ?_;clear hA hB A B)|(refine hK _ ?_;clear hK K))|((with_reducible refine z25 ?_);intro K hK;(conv=>whnf))|(with_reducible refine z0 ?_)|(((with_reducible refine NIf.decN ?s ?_);case s=>omega)<;>(conv=>whnf))|(with_reducible first|refine z3 ?_|refine z4 ?_|refine z7 ?_|refine z8 ?_)|((with_reducible refine z29 ?_);intro A B hA hB;(conv=>whnf))|(with_reducible first|refine z1 ?_|refine z2 ?_|refine z9 ?_|refine z10 ?_|refine z11 ?_|refine z19 ?_)|((with_reducible refine gR ?_);(refine z31 rfl ?_;intro K hK;(conv=>whnf)))))
        all_goals exact ⟨rfl,MemFits.pre 1 rfl⟩
    by_cases h5:k=5
    · subst h5
      rw [show Po.wide (.mk 5 p f v l)=Po.wideI 0 l by rw [Po.wide];rfl]
      (repeat' (first|(with_reducible first|(refine hK _ _ ?_;clear hK K)|(refine hA ?_;clear hA hB A B)|(refine hB ?_;clear hA hB A B)|(refine hK _ ?_;clear hK K))|((with_reducible refine z25 ?_);intro K hK;(conv=>whnf))|(with_reducible refine z0 ?_)|((first|((with_reducible refine NIf.decY ?s ?_);case s=>with_reducible rfl)|((with_reducible refine NIf.decN ?s ?_);case s=>assumption)|(with_reducible refine NN.a5 ?_)|((with_reducible refine NH.mk ?s ?_);case s=>(and_intros<;>first|with_reducible rfl|omega)))<;>(conv=>whnf))|(with_reducible first|refine z3 ?_|refine z4 ?_|refine z5 ?_)|((with_reducible refine z29 ?_);intro A B hA hB;(conv=>whnf))|(with_reducible first|refine z1 ?_|refine z2 ?_)|((with_reducible refine gF ?_);(refine z33 rfl ?_;intro K hK;(conv=>whnf)))|((intro _;skip)<;>(conv=>whnf))))
      refine st_auto (α:=Nat) (fun i=>i≤l.length) (fun i=>[.keep,.keep,.keep,.set (.int .i64 (Po.wideI 0 (l.take i):Nat)),.keep,.keep,.keep,.keep,.keep,.drop,.keep,.keep,.keep,.keep,.keep,.keep,.keep,.keep,.keep,.keep,.keep,.keep,.keep,.keep,.keep,.keep,.keep,.keep,.keep,.keep,.keep,.keep,.keep,.keep,.keep,.keep,.keep,.keep,.keep,.keep,.keep,.keep,.keep,.keep,.keep,.keep,.keep,.set (.int .i64 i),.drop,.drop,.drop,.drop,.drop,.drop,.drop,.drop,.keep]) (fun _=>[]) (fun i=>l.length - i) 0 (Nat.zero_le _) ?_ (MemFits.eq rfl) ?_
      · repeat (first|exact FitsSl.nil|refine FitsSl.any ?_|refine FitsSl.cons (Fit1.int (by  simp [Po.wideI])) ?_|refine FitsSl.cons (Fit1.bool rfl) ?_|refine FitsSl.cons (Fit1.same (by intro h;cases h) (by with_reducible rfl)) ?_)
      (intro i hi;intro K hK;(conv=>whnf);refine hK _ _ ?_;clear hK K)
      by_cases hlt:i<l.length
      · have hx:l[i]?=some l[i]:=List.getElem?_eq_getElem hlt
        obtain ⟨pA,pcap,A,cap,hA,c0,c1,c2,c3,c4,c5,c6,c7⟩:=hu.get hx
        have hmem:=List.mem_of_getElem? hx
        have hnx:=Po.wideI_take 0 hlt
        have hw:=Po.wide_le l[i]
        have hle:=Po.wideI_le (l.take i) 0 (by decide)
        have hAo:=hA.l.ok
        have hAp:=hA.p.ok
        have c:=ih _ hmem _ _ hA
        clear ih
        generalize l[i]=y at *
        generalize Po.wide y=sx at *
        generalize Po.wideI 0 (l.take i)=si at *
        obtain ⟨yk,⟨ypk,ypf,ypv,ypl⟩,yf,yv,yl⟩:=y
        simp only [Po.cs,Po.T.k,Po.T.p,Po.T.f,Po.T.v,Po.T.l,Pd.T.k,Pd.T.f,Pd.T.v,Pd.T.l] at c c0 c1 c2 c3 c4 c5 c6 c7 hAo hAp
        (repeat' (first|(with_reducible first|(refine hK _ _ ?_;clear hK K)|(refine hA ?_;clear hA hB A B))|((with_reducible refine z25 ?_);intro K hK;(conv=>whnf))|(with_reducible refine z0 ?_)|((first|((with_reducible refine NV.i64 ?s ?_);case s=>omega)|(with_reducible refine NV.keep ?_)|((with_reducible refine NIf.decY ?s ?_);case s=>omega)|(with_reducible first|refine NN.cast ?_|refine NN.keep ?_)|((with_reducible refine NH.mk ?s ?_);case s=>(and_intros<;>first|with_reducible rfl|((with_reducible refine gOnes ?_);rfl)|((with_reducible refine gLen ?_);rfl)|omega))|((with_reducible refine NCall.isF 53 ?_);refine NCall.subE [0] (c) rfl (by decide) rfl rfl ?_)|(with_reducible refine NLd.of (by with_reducible assumption) ?_))<;>(conv=>whnf))|(with_reducible first|refine z3 ?_|refine z4 ?_|refine z5 ?_|refine z6 ?_)|((with_reducible refine z29 ?_);intro A B hA hB;(conv=>whnf))|(with_reducible first|refine z1 ?_|refine z2 ?_|refine z9 ?_)|((intro _;skip)<;>(conv=>whnf))))
        refine st_round (i+1) hlt (by omega) ?_ (MemFits.pre 2 rfl)
        repeat (first|exact FitsSl.nil|refine FitsSl.any ?_|refine FitsSl.cons (Fit1.int (by  (rw [hnx];omega))) ?_|refine FitsSl.cons (Fit1.int (by first | rfl | omega)) ?_|refine FitsSl.cons (Fit1.bool rfl) ?_|refine FitsSl.cons (Fit1.same (by intro h;cases h) (by with_reducible rfl)) ?_)
      · have hkl:i=l.length:=by omega
        subst hkl
        rw [List.take_length] at *
        clear ih
        (repeat' (first|(with_reducible first|(refine hK _ _ ?_;clear hK K)|(refine hB ?_;clear hA hB A B)|(refine hK _ ?_;clear hK K))|((with_reducible refine z25 ?_);intro K hK;(conv=>whnf))|(with_reducible refine z0 ?_)|(((with_reducible refine NIf.decN ?s ?_);case s=>omega)<;>(conv=>whnf))|(with_reducible first|refine z3 ?_|refine z4 ?_|refine z7 ?_|refine z8 ?_)|((with_reducible refine z29 ?_);intro A B hA hB;(conv=>whnf))|(with_reducible first|refine z1 ?_|refine z2 ?_|refine z9 ?_|refine z10 ?_|refine z11 ?_|refine z19 ?_)|((with_reducible refine gR ?_);(refine z31 rfl ?_;intro K hK;(conv=>whnf)))))
        all_goals exact ⟨rfl,MemFits.pre 1 rfl⟩
    rw [show Po.wide (.mk k p f v l)=1 by rw [Po.wide,if_neg h3,if_neg h4,if_neg h5]]
    clear ih
    (repeat' (first|(with_reducible first|(refine hK _ _ ?_;clear hK K)|(refine hB ?_;clear hA hB A B)|(refine hK _ ?_;clear hK K))|((with_reducible refine z25 ?_);intro K hK;(conv=>whnf))|(with_reducible refine z0 ?_)|((first|((with_reducible refine NIf.decN ?s ?_);case s=>assumption)|(with_reducible refine NN.a5 ?_)|((with_reducible refine NH.mk ?s ?_);case s=>(and_intros<;>with_reducible rfl)))<;>(conv=>whnf))|(with_reducible first|refine z3 ?_|refine z4 ?_|refine z5 ?_|refine z6 ?_|refine z8 ?_)|((with_reducible refine z29 ?_);intro A B hA hB;(conv=>whnf))|(with_reducible first|refine z1 ?_|refine z2 ?_|refine z9 ?_)|((with_reducible refine gR ?_);(refine z31 rfl ?_;intro K hK;(conv=>whnf)))|((with_reducible refine gF ?_);(refine z33 rfl ?_;intro K hK;(conv=>whnf)))|((intro _;skip)<;>(conv=>whnf))))
    all_goals first
      | exact ⟨rfl,MemFits.pre 1 rfl⟩
      | (exfalso;omega)
omit F in
end
end Go.Proofs.YtaojbkphcnailaaDoor
namespace Go.Proofs.YtaojbkphcnailaaDoor
open Go.Sx
set_option maxRecDepth 20000
set_option linter.unusedSimpArgs false
set_option linter.unusedVariables false
set_option maxHeartbeats 4000000
set_option linter.unusedVariables false
theorem Po.any_fits (l:List Po.T):(l.any fun x=>!Po.fits x)=!Po.fitsL l:=by
  induction l with
  | nil=>rfl
  | cons p l ih=>rw [List.any_cons,ih,Po.fitsL];cases Po.fits p<;>simp
theorem poF {p:Prop} [Decidable p] (h:¬ p):AV.bool false=AV.bool (decide p):=by rw [decide_eq_false h]
section
variable (F:Heap)
theorem none27_c (k:Int) (p:Pd.T) (f v:Int) (l:List Po.T) (pu u:Value) (hok:SlOk u l.length) (hs:Pd.size p≤4611686018427387904) (hp:Pd.Row F pu p.l) :
    NCall Tryd.prog 95 [.agg (Po.cs (.mk k p f v l) pu u)] [hpB F] fun r m=>r = .bool (Po.none p)∧m=[hpB F]:=by
  refine NCall.fits (K:=fun r m=>r = .bool (Po.none p)∧MemFits m [hpB F]) ?_ fun r m' h=>⟨r,_,rfl,h.2,h.1,rfl⟩
  have c:=same26_c F _ p Po.noneP pu (.slice none 0 0) (Nat.le_refl _) hs (by decide +kernel) hp RowF.nil
  have hpok:=hp.ok
  rw [po_cs]
  unfold Po.none
  generalize Pd.same p Po.noneP=b at *
  clear hs hp
  obtain ⟨pk,pf,pv,pl⟩:=p
  simp only [pd_cs,Po.noneP,Pd.T.k,Pd.T.f,Pd.T.v,Pd.T.l,List.length_nil] at *
  refine ncall_of Tryd.func95 rfl (by decide) ?_
  (repeat' (first|(with_reducible first|(refine hK _ _ ?_;clear hK K)|(refine hK _ ?_;clear hK K))|((with_reducible refine z25 ?_);intro K hK;(conv=>whnf))|(with_reducible refine z0 ?_)|((first|(with_reducible refine NN.a5 ?_)|((with_reducible refine NH.mk ?s ?_);case s=>(and_intros<;>with_reducible rfl))|((with_reducible refine NCall.isF 49 ?_);refine NCall.subE [0] (c) rfl (by decide) rfl rfl ?_))<;>(conv=>whnf))|(with_reducible first|refine z3 ?_|refine z4 ?_|refine z8 ?_|refine z1 ?_|refine z2 ?_)|((with_reducible refine gR ?_);(refine z31 rfl ?_;intro K hK;(conv=>whnf)))|((with_reducible refine gF ?_);(refine z33 rfl ?_;intro K hK;(conv=>whnf)))|((intro _;skip)<;>(conv=>whnf))))
  all_goals exact ⟨rfl,MemFits.pre 1 rfl⟩
theorem shape27_c (k:Int) (p:Pd.T) (f v:Int) (l:List Po.T) (pu u:Value) (hs:Pd.size p≤4611686018427387904) (hn:l.length≤4611686018427387904) (hx:Po.At F (.mk k p f v l) pu u) :
    NCall Tryd.prog 79 [.agg (Po.cs (.mk k p f v l) pu u)] [hpB F] fun r m=>r = .bool (Po.shape k p f v l.length)∧m=[hpB F]:=by
  refine NCall.fits (K:=fun r m=>r = .bool (Po.shape k p f v l.length)∧MemFits m [hpB F]) ?_ fun r m' h=>⟨r,_,rfl,h.2,h.1,rfl⟩
  have hp:Pd.Row F pu p.l:=hx.p
  have hok:SlOk u l.length:=hx.l.ok
  have hpok:=hp.ok
  have cn:=none27_c F k p f v l pu u hok hs hp
  have cr:=right26_c F p pu hs hp
  have ct:=top26_c f
  unfold Po.shape
  rw [po_cs] at *
  generalize Po.none p=nb at *
  generalize Pd.right p=rb at *
  generalize Pd.top f=tp at *
  clear hs hx hp
  obtain ⟨pk,pf,pv,pl⟩:=p
  simp only [pd_cs,Pd.T.k,Pd.T.f,Pd.T.v,Pd.T.l] at *
  generalize l.length=n at *
  refine ncall_of Tryd.func79 rfl (by decide) ?_
  by_cases h1:k=1
  · subst h1
    cases rb
    all_goals (repeat' (first|(with_reducible first|(refine hK _ _ ?_;clear hK K)|(refine hA ?_;clear hA hB A B)|(refine hK _ ?_;clear hK K))|((with_reducible first|refine z25 ?_|refine z26 ?_);intro K hK;(conv=>whnf))|(with_reducible refine z0 ?_)|((first|((with_reducible refine NIf.decY ?s ?_);case s=>first|with_reducible rfl|assumption)|((with_reducible refine NIf.decN ?s ?_);case s=>assumption)|((with_reducible refine NIf.yes ?s ?_);case s=>rfl)|((with_reducible refine NIf.no ?s ?_);case s=>rfl)|(with_reducible first|refine NIf.dec (fun _=>?_) (fun _=>?_)|refine NN.a5 ?_)|((with_reducible refine NH.mk ?s ?_);case s=>(and_intros<;>first|with_reducible rfl|omega|rfl))|((with_reducible refine NCall.isF 94 ?_);refine NCall.subE [0] (cr) rfl (by decide) rfl rfl ?_))<;>(conv=>whnf))|(with_reducible refine st_ordSout ?_)|((with_reducible refine gNOK ?_);(first|(refine st_ordK1 rfl (by kernel_rfl) rfl ?_;intro K hK;(conv=>whnf))|(refine st_ordK1g rfl (by kernel_rfl) rfl ?_;intro K hK;(conv=>whnf))|refine st_ordK0 rfl (by kernel_rfl) ?_))|((with_reducible refine gX ?_);(first|refine st_orderS [] rfl rfl (by kernel_rfl) _ rfl ?_|(with_reducible first|refine z3 ?_|refine z4 ?_|refine z5 ?_|refine z8 ?_)|((with_reducible refine z29 ?_);intro A B hA hB;(conv=>whnf))))|(with_reducible first|refine z1 ?_|refine z2 ?_|refine z12 ?_|refine z13 ?_)|((with_reducible refine gR ?_);(refine z31 rfl ?_;intro K hK;(conv=>whnf)))|((with_reducible refine gF ?_);(refine z33 rfl ?_;intro K hK;(conv=>whnf)))|((intro _;skip)<;>(conv=>whnf))))
    all_goals first
      | exact ⟨poF (by simp;try omega),MemFits.pre 1 rfl⟩
      | exact ⟨poT (by simp;omega),MemFits.pre 1 rfl⟩
      | (refine ⟨?_,MemFits.pre 1 rfl⟩;congr 1;apply decide_eq_decide.2;simp;omega)
  by_cases h2:k=2
  · subst h2
    cases nb
    all_goals (repeat' (first|(with_reducible first|(refine hK _ _ ?_;clear hK K)|(refine hA ?_;clear hA hB A B)|(refine hB ?_;clear hA hB A B)|(refine hK _ ?_;clear hK K))|((with_reducible refine z25 ?_);intro K hK;(conv=>whnf))|(with_reducible refine z0 ?_)|((first|((with_reducible refine NIf.decY ?s ?_);case s=>first|with_reducible rfl|assumption|omega)|((with_reducible refine NIf.decN ?s ?_);case s=>assumption)|((with_reducible refine NIf.yes ?s ?_);case s=>rfl)|((with_reducible refine NIf.no ?s ?_);case s=>rfl)|(with_reducible first|refine NIf.dec (fun _=>?_) (fun _=>?_)|refine NN.a5 ?_)|((with_reducible refine NH.mk ?s ?_);case s=>(and_intros<;>first|with_reducible rfl|((with_reducible refine gKept ?_);exact rfl)|omega|rfl))|((with_reducible refine NCall.isF 95 ?_);refine NCall.subE [0] (cn) rfl (by decide) rfl rfl ?_)|((with_reducible refine NCall.isF 96 ?_);refine NCall.pureE (ct) ?_))<;>(conv=>whnf))|(with_reducible refine st_ordSout ?_)|((with_reducible refine gNOK ?_);(first|(refine st_ordK1 rfl (by kernel_rfl) rfl ?_;intro K hK;(conv=>whnf))|(refine st_ordK1g rfl (by kernel_rfl) rfl ?_;intro K hK;(conv=>whnf))|refine st_ordK0 rfl (by kernel_rfl) ?_|refine st_ordKA rfl rfl (by kernel_rfl) (by intro h;cases h) ?_))|((with_reducible refine gNEK ?_);(first|(refine st_eachK ?_ ?_;(intro K hK;(conv=>whnf)))|(refine st_eachKg rfl ?_ ?_;(intro K hK;(conv=>whnf)))|exact st_eachK0))|((with_reducible refine gX ?_);(first|refine st_orderS [] rfl rfl (by kernel_rfl) _ rfl ?_|(with_reducible first|refine z3 ?_|refine z4 ?_|refine z5 ?_|refine z8 ?_)|((with_reducible refine z29 ?_);intro A B hA hB;(conv=>whnf))))|(with_reducible first|refine z1 ?_|refine z2 ?_|refine z12 ?_|refine z13 ?_)|((with_reducible refine gR ?_);(refine z31 rfl ?_;intro K hK;(conv=>whnf)))|((with_reducible refine gF ?_);(refine z33 rfl ?_;intro K hK;(conv=>whnf)))|((intro _;skip)<;>(conv=>whnf))))
    all_goals first
      | exact ⟨poF (by simp;try omega),MemFits.pre 1 rfl⟩
      | exact ⟨poT (by simp;omega),MemFits.pre 1 rfl⟩
      | (refine ⟨?_,MemFits.pre 1 rfl⟩;congr 1;apply decide_eq_decide.2;simp;omega)
  by_cases h34:k=3∨k=4
  · rcases h34 with rfl | rfl
    · cases nb
      all_goals (repeat' (first|(with_reducible first|(refine hK _ _ ?_;clear hK K)|(refine hA ?_;clear hA hB A B)|(refine hB ?_;clear hA hB A B)|(refine hK _ ?_;clear hK K))|((with_reducible first|refine z25 ?_|refine z26 ?_);intro K hK;(conv=>whnf))|(with_reducible refine z0 ?_)|((first|((with_reducible refine NIf.decY ?s ?_);case s=>first|with_reducible rfl|assumption)|((with_reducible refine NIf.decN ?s ?_);case s=>assumption)|((with_reducible refine NIf.yes ?s ?_);case s=>rfl)|((with_reducible refine NIf.no ?s ?_);case s=>rfl)|(with_reducible first|refine NIf.dec (fun _=>?_) (fun _=>?_)|refine NN.a5 ?_)|((with_reducible refine NH.mk ?s ?_);case s=>(and_intros<;>first|with_reducible rfl|omega|rfl))|((with_reducible refine NCall.isF 95 ?_);refine NCall.subE [0] (cn) rfl (by decide) rfl rfl ?_))<;>(conv=>whnf))|(with_reducible refine st_ordSout ?_)|((with_reducible refine gNOK ?_);(first|(refine st_ordK1 rfl (by kernel_rfl) rfl ?_;intro K hK;(conv=>whnf))|(refine st_ordK1g rfl (by kernel_rfl) rfl ?_;intro K hK;(conv=>whnf))|refine st_ordK0 rfl (by kernel_rfl) ?_))|((with_reducible refine gX ?_);(first|refine st_orderS [] rfl rfl (by kernel_rfl) _ rfl ?_|(with_reducible first|refine z3 ?_|refine z4 ?_|refine z5 ?_|refine z6 ?_|refine z8 ?_)|((with_reducible refine z29 ?_);intro A B hA hB;(conv=>whnf))))|(with_reducible first|refine z1 ?_|refine z2 ?_|refine z12 ?_|refine z13 ?_)|((with_reducible refine gR ?_);(refine z31 rfl ?_;intro K hK;(conv=>whnf)))|((with_reducible refine gF ?_);(refine z33 rfl ?_;intro K hK;(conv=>whnf)))|((intro _;skip)<;>(conv=>whnf))))
      all_goals first
        | exact ⟨poF (by simp;try omega),MemFits.pre 1 rfl⟩
        | exact ⟨poT (by simp;omega),MemFits.pre 1 rfl⟩
        | (refine ⟨?_,MemFits.pre 1 rfl⟩;congr 1;apply decide_eq_decide.2;simp;omega)
    · cases nb
      all_goals (repeat' (first|(with_reducible first|(refine hK _ _ ?_;clear hK K)|(refine hA ?_;clear hA hB A B)|(refine hB ?_;clear hA hB A B)|(refine hK _ ?_;clear hK K))|((with_reducible first|refine z25 ?_|refine z26 ?_);intro K hK;(conv=>whnf))|(with_reducible refine z0 ?_)|((first|((with_reducible refine NIf.decY ?s ?_);case s=>first|with_reducible rfl|assumption)|((with_reducible refine NIf.decN ?s ?_);case s=>first|assumption|omega)|((with_reducible refine NIf.yes ?s ?_);case s=>rfl)|((with_reducible refine NIf.no ?s ?_);case s=>rfl)|(with_reducible first|refine NIf.dec (fun _=>?_) (fun _=>?_)|refine NN.a5 ?_)|((with_reducible refine NH.mk ?s ?_);case s=>(and_intros<;>first|with_reducible rfl|omega|rfl))|((with_reducible refine NCall.isF 95 ?_);refine NCall.subE [0] (cn) rfl (by decide) rfl rfl ?_))<;>(conv=>whnf))|(with_reducible refine st_ordSout ?_)|((with_reducible refine gNOK ?_);(first|(refine st_ordK1 rfl (by kernel_rfl) rfl ?_;intro K hK;(conv=>whnf))|(refine st_ordK1g rfl (by kernel_rfl) rfl ?_;intro K hK;(conv=>whnf))|refine st_ordK0 rfl (by kernel_rfl) ?_))|((with_reducible refine gX ?_);(first|refine st_orderS [] rfl rfl (by kernel_rfl) _ rfl ?_|(with_reducible first|refine z3 ?_|refine z4 ?_|refine z5 ?_|refine z8 ?_)|((with_reducible refine z29 ?_);intro A B hA hB;(conv=>whnf))))|(with_reducible first|refine z1 ?_|refine z2 ?_|refine z12 ?_|refine z13 ?_)|((with_reducible refine gR ?_);(refine z31 rfl ?_;intro K hK;(conv=>whnf)))|((with_reducible refine gF ?_);(refine z33 rfl ?_;intro K hK;(conv=>whnf)))|((intro _;skip)<;>(conv=>whnf))))
      all_goals first
        | exact ⟨poF (by simp;try omega),MemFits.pre 1 rfl⟩
        | exact ⟨poT (by simp;omega),MemFits.pre 1 rfl⟩
        | (refine ⟨?_,MemFits.pre 1 rfl⟩;congr 1;apply decide_eq_decide.2;simp;omega)
  by_cases h5:k=5
  · subst h5
    cases rb
    all_goals (repeat' (first|(with_reducible first|(refine hK _ _ ?_;clear hK K)|(refine hA ?_;clear hA hB A B)|(refine hB ?_;clear hA hB A B)|(refine hK _ ?_;clear hK K))|((with_reducible first|refine z25 ?_|refine z26 ?_);intro K hK;(conv=>whnf))|(with_reducible refine z0 ?_)|((first|((with_reducible refine NIf.decY ?s ?_);case s=>first|with_reducible rfl|assumption)|((with_reducible refine NIf.decN ?s ?_);case s=>first|assumption|omega)|((with_reducible refine NIf.yes ?s ?_);case s=>rfl)|((with_reducible refine NIf.no ?s ?_);case s=>rfl)|(with_reducible first|refine NIf.dec (fun _=>?_) (fun _=>?_)|refine NN.a5 ?_)|((with_reducible refine NH.mk ?s ?_);case s=>(and_intros<;>first|with_reducible rfl|omega|rfl))|((with_reducible refine NCall.isF 94 ?_);refine NCall.subE [0] (cr) rfl (by decide) rfl rfl ?_))<;>(conv=>whnf))|(with_reducible refine st_ordSout ?_)|((with_reducible refine gNOK ?_);(first|(refine st_ordK1 rfl (by kernel_rfl) rfl ?_;intro K hK;(conv=>whnf))|(refine st_ordK1g rfl (by kernel_rfl) rfl ?_;intro K hK;(conv=>whnf))|refine st_ordK0 rfl (by kernel_rfl) ?_))|((with_reducible refine gX ?_);(first|refine st_orderS [] rfl rfl (by kernel_rfl) _ rfl ?_|(with_reducible first|refine z3 ?_|refine z4 ?_|refine z5 ?_|refine z8 ?_)|((with_reducible refine z29 ?_);intro A B hA hB;(conv=>whnf))))|(with_reducible first|refine z1 ?_|refine z2 ?_|refine z12 ?_|refine z13 ?_)|((with_reducible refine gR ?_);(refine z31 rfl ?_;intro K hK;(conv=>whnf)))|((with_reducible refine gF ?_);(refine z33 rfl ?_;intro K hK;(conv=>whnf)))|((intro _;skip)<;>(conv=>whnf))))
    all_goals first
      | exact ⟨poF (by simp;try omega),MemFits.pre 1 rfl⟩
      | exact ⟨poT (by simp;omega),MemFits.pre 1 rfl⟩
      | (refine ⟨?_,MemFits.pre 1 rfl⟩;congr 1;apply decide_eq_decide.2;simp;omega)
  (repeat' (first|(with_reducible first|(refine hK _ _ ?_;clear hK K)|(refine hB ?_;clear hA hB A B)|(refine hK _ ?_;clear hK K))|((with_reducible refine z25 ?_);intro K hK;(conv=>whnf))|(with_reducible refine z0 ?_)|((first|((with_reducible refine NIf.decY ?s ?_);case s=>assumption)|((with_reducible refine NIf.decN ?s ?_);case s=>first|assumption|omega)|(with_reducible first|refine NIf.dec (fun _=>?_) (fun _=>?_)|refine NN.a5 ?_)|((with_reducible refine NH.mk ?s ?_);case s=>(and_intros<;>first|with_reducible rfl|omega|rfl)))<;>(conv=>whnf))|(with_reducible refine st_ordSout ?_)|((with_reducible refine gNOK ?_);(first|(refine st_ordK1 rfl (by kernel_rfl) rfl ?_;intro K hK;(conv=>whnf))|(refine st_ordK1g rfl (by kernel_rfl) rfl ?_;intro K hK;(conv=>whnf))|refine st_ordK0 rfl (by kernel_rfl) ?_))|((with_reducible refine gX ?_);(first|refine st_orderS [] rfl rfl (by kernel_rfl) _ rfl ?_|(with_reducible first|refine z3 ?_|refine z4 ?_|refine z5 ?_|refine z6 ?_|refine z8 ?_)|((with_reducible refine z29 ?_);intro A B hA hB;(conv=>whnf))))|(with_reducible first|refine z1 ?_|refine z2 ?_|refine z9 ?_)|((with_reducible refine gR ?_);(refine z31 rfl ?_;intro K hK;(conv=>whnf)))|((with_reducible refine gF ?_);(refine z33 rfl ?_;intro K hK;(conv=>whnf)))|((intro _;skip)<;>(conv=>whnf))))
  all_goals first
    | exact ⟨poF (by omega),MemFits.pre 1 rfl⟩
    | (exfalso;omega)
end
end Go.Proofs.YtaojbkphcnailaaDoor
