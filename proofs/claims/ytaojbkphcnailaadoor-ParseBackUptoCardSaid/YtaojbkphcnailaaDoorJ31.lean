import Derived.Test.YtaojbkphcnailaaDoorJ29
import Derived.Test.YtaojbkphcnailaaDoorJ30
namespace Go.Proofs.YtaojbkphcnailaaDoor
open Go.Sx
set_option maxRecDepth 20000
set_option linter.unusedSimpArgs false
set_option linter.unusedVariables false
set_option maxHeartbeats 4000000
set_option linter.unusedVariables false
section
variable (F:Heap)
theorem fits27_2 (pk pf pv:Int) (pl:List Pd.T) (f v:Int) (l:List Po.T) (pu u:Value) (tp:Int) (nb rb:Bool) (htp:Pd.top f=tp) (hnb:Pd.same (.mk pk pf pv pl) Po.noneP=nb) (hrb:Pd.right (.mk pk pf pv pl)=rb) (hu:Po.Row F u l) (hok:SlOk u l.length) (hpok:SlOk pu pl.length) (hln:l.length≤4611686018427387904)
    (ih:∀ x∈l,∀ pA A,Po.At F x pA A→NCall Tryd.prog 34 [.agg (Po.cs x pA A)] [hpB F] fun r m=>r = .bool (Po.fits x)∧m=[hpB F])
    (ct:NCall Tryd.prog 71 [.int .i64 f] [] fun r _=>r = .int .i64 tp)
    (cr:NCall Tryd.prog 19 [.agg [.int .i64 pk,.int .i64 pf,.int .i64 pv,.hs pu pl.length]] [hpB F] fun r m=>r = .bool rb∧m=[hpB F])
    (cn:NCall Tryd.prog 13 [.agg [.int .i64 pk,.int .i64 pf,.int .i64 pv,.hs pu pl.length],.agg [.int .i64 0,.int .i64 0,.int .i64 0,.hs (.slice none 0 0) 0]] [hpB F] fun r m=>r = .bool nb∧m=[hpB F]) :
    NCall Tryd.prog 34 [.agg [.int .i64 2,.int .i64 pk,.int .i64 pf,.int .i64 pv,.hs pu pl.length,.int .i64 f,.int .i64 v,.hs u l.length]] [hpB F] fun r m=>r = .bool (Po.shape 2 (.mk pk pf pv pl) f v l.length&&Po.fitsL l)∧MemFits m [hpB F]:=by
  have hfl:=Po.fitsL_iff l
  have hsh:Po.shape 2 (.mk pk pf pv pl) f v l.length=decide ((2:Int)=1∧rb=true∧(f=0∧v=0)∧l.length=0∨(2:Int)=2∧nb=true∧(0≤f∧f≤4)∧(0≤v∧v≤tp)∧l.length=0∨((2:Int)=3∨(2:Int)=4)∧nb=true∧(f=0∧v=0)∧2≤l.length∧l.length≤8∨(2:Int)=5∧rb=true∧(f=0∧v=0)∧l.length=2):=by rw [← htp,← hnb,← hrb];rfl
  clear htp hnb hrb
  refine ncall_of Tryd.func34 rfl (by decide) ?_
  cases nb
  · rw [show Po.shape 2 (.mk pk pf pv pl) f v l.length=false by rw [hsh];exact decide_eq_false (fun h=>by
      rcases h with ⟨a1,a2,a3⟩ | ⟨a1,a2,a3⟩ | ⟨a1,a2,a3⟩ | ⟨a1,a2,a3⟩<;>first | (cases a2;done) | omega)]
    clear hsh hfl ih
    rw [Bool.false_and]
    by_cases hq0:(0≤f∧f≤4)∧(0≤v∧v≤tp)
    · (repeat' (first|(with_reducible first|(refine hK _ _ ?_;clear hK K)|(refine hA ?_;clear hA hB A B)|(refine hB ?_;clear hA hB A B)|(refine hK _ ?_;clear hK K))|((with_reducible first|refine z25 ?_|refine z26 ?_);intro K hK;(conv=>whnf))|(with_reducible refine z0 ?_)|((first|((with_reducible refine NIf.yes ?s ?_);case s=>(simp ;done))|((with_reducible refine NIf.no ?s ?_);case s=>(simp ;done))|(with_reducible refine NN.a5 ?_)|((with_reducible refine NH.mk ?s ?_);case s=>(and_intros<;>first|with_reducible rfl|omega))|((with_reducible refine NCall.isF 13 ?_);refine NCall.subE [0] (cn) rfl (by decide) rfl rfl ?_))<;>(conv=>whnf))|(with_reducible first|refine z3 ?_|refine z4 ?_|refine z6 ?_|refine z8 ?_)|((with_reducible refine z29 ?_);intro A B hA hB;(conv=>whnf))|(with_reducible first|refine z1 ?_|refine z2 ?_|refine z12 ?_)|((with_reducible refine gR ?_);(refine z31 rfl ?_;intro K hK;(conv=>whnf)))|((with_reducible refine gF ?_);(refine z33 rfl ?_;intro K hK;(conv=>whnf)))|((intro _;skip)<;>(conv=>whnf))))
      all_goals first
        | exact ⟨rfl,MemFits.pre 1 rfl⟩
        | (exfalso;omega)
    · (repeat' (first|(with_reducible first|(refine hK _ _ ?_;clear hK K)|(refine hA ?_;clear hA hB A B)|(refine hB ?_;clear hA hB A B)|(refine hK _ ?_;clear hK K))|((with_reducible first|refine z25 ?_|refine z26 ?_);intro K hK;(conv=>whnf))|(with_reducible refine z0 ?_)|((first|((with_reducible refine NIf.yes ?s ?_);case s=>(simp ;done))|((with_reducible refine NIf.no ?s ?_);case s=>(simp ;done))|(with_reducible refine NN.a5 ?_)|((with_reducible refine NH.mk ?s ?_);case s=>(and_intros<;>first|with_reducible rfl|omega))|((with_reducible refine NCall.isF 13 ?_);refine NCall.subE [0] (cn) rfl (by decide) rfl rfl ?_))<;>(conv=>whnf))|(with_reducible first|refine z3 ?_|refine z4 ?_|refine z6 ?_|refine z8 ?_)|((with_reducible refine z29 ?_);intro A B hA hB;(conv=>whnf))|(with_reducible first|refine z1 ?_|refine z2 ?_|refine z12 ?_)|((with_reducible refine gR ?_);(refine z31 rfl ?_;intro K hK;(conv=>whnf)))|((with_reducible refine gF ?_);(refine z33 rfl ?_;intro K hK;(conv=>whnf)))|((intro _;skip)<;>(conv=>whnf))))
      all_goals first
        | exact ⟨rfl,MemFits.pre 1 rfl⟩
        | (exfalso;omega)
  · by_cases hq:(0≤f∧f≤4)∧(0≤v∧v≤tp)∧l.length=0
    · rw [show Po.shape 2 (.mk pk pf pv pl) f v l.length=true by rw [hsh];exact decide_eq_true (.inr (.inl ⟨rfl,rfl,hq.1,hq.2.1,hq.2.2⟩))]
      clear hsh
      rw [Bool.true_and]
      (repeat' (first|(with_reducible first|(refine hK _ _ ?_;clear hK K)|(refine hB ?_;clear hA hB A B)|(refine hK _ ?_;clear hK K))|((with_reducible first|refine z25 ?_|refine z26 ?_);intro K hK;(conv=>whnf))|(with_reducible refine z0 ?_)|((first|((with_reducible refine NIf.yes ?s ?_);case s=>(simp ;done))|((with_reducible refine NIf.no ?s ?_);case s=>(simp ;done))|with_reducible refine NIf.not_ ?_|((with_reducible refine NIf.decY ?s ?_);case s=>omega)|((with_reducible refine NIf.decN ?s ?_);case s=>omega)|(with_reducible refine NN.a5 ?_)|((with_reducible refine NH.mk ?s ?_);case s=>(and_intros<;>first|with_reducible rfl|((with_reducible refine gKept ?_);exact rfl)|omega|rfl))|((with_reducible refine NCall.isF 13 ?_);refine NCall.subE [0] (cn) rfl (by decide) rfl rfl ?_)|((with_reducible refine NCall.isF 71 ?_);refine NCall.pureE (ct) ?_))<;>(conv=>whnf))|(with_reducible refine st_ordSout ?_)|((with_reducible refine gNOK ?_);(first|(refine st_ordK1 rfl (by kernel_rfl) rfl ?_;intro K hK;(conv=>whnf))|(refine st_ordK1g rfl (by kernel_rfl) rfl ?_;intro K hK;(conv=>whnf))|refine st_ordK0 rfl (by kernel_rfl) ?_|refine st_ordKA rfl rfl (by kernel_rfl) (by intro h;cases h) ?_))|((with_reducible refine gNEK ?_);(first|(refine st_eachKg rfl ?_ ?_;(intro K hK;(conv=>whnf)))|exact st_eachK0))|((with_reducible refine gX ?_);(first|refine st_orderS [] rfl rfl (by kernel_rfl) _ rfl ?_|(with_reducible first|refine z3 ?_|refine z4 ?_|refine z5 ?_|refine z6 ?_)|((with_reducible refine z29 ?_);intro A B hA hB;(conv=>whnf))))|(with_reducible first|refine z1 ?_|refine z2 ?_)|((with_reducible refine gF ?_);(refine z33 rfl ?_;intro K hK;(conv=>whnf)))|((intro _;skip)<;>(conv=>whnf))))
      all_goals try (exfalso;omega)
      all_goals
        refine st_auto (α:=Nat) (fun i=>i≤l.length∧∀ (j:Nat) (x:Po.T),j<i→l[j]?=some x→Po.fits x=true) (fun i=>[.keep,.keep,.drop,.keep,.keep,.set (.int .i64 i),.keep,.keep,.keep,.keep,.keep,.keep,.keep,.keep,.keep,.keep,.keep,.keep,.keep,.keep,.keep,.keep,.keep,.keep,.keep,.keep,.keep,.keep,.keep,.keep,.keep,.keep,.keep,.keep,.keep,.keep,.keep,.keep,.keep,.keep,.keep,.keep,.keep,.keep,.keep,.keep,.keep,.keep,.keep,.keep,.keep,.keep,.keep,.keep,.keep,.keep,.keep,.keep,.keep,.keep,.keep,.keep,.keep,.keep,.keep,.keep,.keep,.keep,.keep,.keep,.keep,.keep,.keep,.keep,.keep,.keep,.keep,.keep,.keep,.keep,.keep,.keep,.keep,.keep,.keep,.keep,.keep,.keep,.keep,.keep,.keep,.keep,.keep,.keep,.keep,.keep,.keep,.keep,.keep,.keep,.keep,.keep,.keep,.keep,.keep,.keep,.keep,.keep,.keep,.keep,.keep,.keep,.keep,.keep,.keep,.keep,.keep,.keep,.drop,.drop,.drop,.drop,.drop,.drop,.drop,.drop,.drop,.drop,.drop,.drop]) (fun _=>[]) (fun i=>l.length - i) 0 ⟨Nat.zero_le _,fun j x hj=>absurd hj (Nat.not_lt_zero _)⟩ ?_ (MemFits.eq rfl) ?_
        · repeat (first|exact FitsSl.nil|refine FitsSl.any ?_|refine FitsSl.cons (Fit1.int (by first | rfl | omega)) ?_|refine FitsSl.cons (Fit1.bool rfl) ?_|refine FitsSl.cons (Fit1.same (by intro h;cases h) (by with_reducible rfl)) ?_)
        (intro i ⟨hi,hgone⟩;intro K hK;(conv=>whnf);refine hK _ _ ?_;clear hK K)
        by_cases hlt:i<l.length
        · have hx:l[i]?=some l[i]:=List.getElem?_eq_getElem hlt
          obtain ⟨pA,pcap,A,cap,hA,c0,c1,c2,c3,c4,c5,c6,c7⟩:=hu.get hx
          have hAo:=hA.l.ok
          have hAp:=hA.p.ok
          have hmem:=List.mem_of_getElem? hx
          have c:=ih _ hmem _ _ hA
          clear ih
          have hbad:Po.fits l[i]=false→Po.fitsL l=false:=fun hb=>by
            cases h:Po.fitsL l with
            | false=>rfl
            | true=>have:=hfl.1 h _ hmem;rw [hb] at this;cases this
          have hgood0:Po.fits l[i]=true→∀ (j:Nat) (x:Po.T),j<i+1→l[j]?=some x→Po.fits x=true:=fun hg j y hj hy=>by
            by_cases e:j=i
            · subst e
              rw [hx] at hy
              injection hy with hy
              rw [← hy];exact hg
            · exact hgone j y (by omega) hy
          clear hgone hfl
          cases hq:Po.fits l[i] with
          | true =>
            rw [hq] at c
            have hgood:=hgood0 hq
            clear hbad hq hgood0
            generalize l[i]=y at *
            obtain ⟨yk,⟨ypk,ypf,ypv,ypl⟩,yf,yv,yl⟩:=y
            simp only [Po.cs,Po.T.k,Po.T.p,Po.T.f,Po.T.v,Po.T.l,Pd.T.k,Pd.T.f,Pd.T.v,Pd.T.l] at c c0 c1 c2 c3 c4 c5 c6 c7 hAo hAp
            (repeat' (first|(with_reducible first|(refine hK _ _ ?_;clear hK K)|(refine hA ?_;clear hA hB A B)|(refine hB ?_;clear hA hB A B))|((with_reducible refine z25 ?_);intro K hK;(conv=>whnf))|(with_reducible refine z0 ?_)|((first|((with_reducible refine NV.i64 ?s ?_);case s=>omega)|with_reducible refine NIf.not_ ?_|((with_reducible refine NIf.decY ?s ?_);case s=>omega)|((with_reducible refine NIf.yes ?s ?_);case s=>rfl)|(with_reducible first|refine NN.cast ?_|refine NN.a5 ?_|refine NN.keep ?_)|((with_reducible refine NH.mk ?s ?_);case s=>(and_intros<;>first|with_reducible rfl|omega))|((with_reducible refine NCall.isF 34 ?_);refine NCall.subE [0] (c) rfl (by decide) rfl rfl ?_)|(with_reducible refine NLd.of (by with_reducible assumption) ?_))<;>(conv=>whnf))|(with_reducible first|refine z3 ?_|refine z4 ?_|refine z5 ?_|refine z6 ?_)|((with_reducible refine z29 ?_);intro A B hA hB;(conv=>whnf))|(with_reducible first|refine z1 ?_|refine z2 ?_|refine z9 ?_)))
            refine st_round (i+1) ⟨hlt,hgood⟩ (by omega) ?_ (MemFits.eq rfl)
            repeat (first|exact FitsSl.nil|refine FitsSl.any ?_|refine FitsSl.cons (Fit1.int (by first | rfl | omega)) ?_|refine FitsSl.cons (Fit1.bool rfl) ?_|refine FitsSl.cons (Fit1.same (by intro h;cases h) (by with_reducible rfl)) ?_)
          | false =>
            rw [hq] at c
            rw [hbad hq]
            clear hbad hgood0 hq
            generalize l[i]=y at *
            obtain ⟨yk,⟨ypk,ypf,ypv,ypl⟩,yf,yv,yl⟩:=y
            simp only [Po.cs,Po.T.k,Po.T.p,Po.T.f,Po.T.v,Po.T.l,Pd.T.k,Pd.T.f,Pd.T.v,Pd.T.l] at c c0 c1 c2 c3 c4 c5 c6 c7 hAo hAp
            (repeat' (first|(with_reducible first|(refine hK _ _ ?_;clear hK K)|(refine hA ?_;clear hA hB A B)|(refine hK _ ?_;clear hK K))|((with_reducible refine z25 ?_);intro K hK;(conv=>whnf))|(with_reducible refine z0 ?_)|((first|with_reducible refine NIf.not_ ?_|((with_reducible refine NIf.decY ?s ?_);case s=>omega)|((with_reducible refine NIf.no ?s ?_);case s=>rfl)|(with_reducible first|refine NN.cast ?_|refine NN.a5 ?_|refine NN.keep ?_)|((with_reducible refine NH.mk ?s ?_);case s=>(and_intros<;>first|with_reducible rfl|omega))|((with_reducible refine NCall.isF 34 ?_);refine NCall.subE [0] (c) rfl (by decide) rfl rfl ?_)|(with_reducible refine NLd.of (by with_reducible assumption) ?_))<;>(conv=>whnf))|(with_reducible first|refine z3 ?_|refine z4 ?_|refine z5 ?_|refine z6 ?_|refine z8 ?_)|((with_reducible refine z29 ?_);intro A B hA hB;(conv=>whnf))|(with_reducible first|refine z1 ?_|refine z2 ?_|refine z12 ?_|refine z13 ?_|refine z20 ?_)|((with_reducible refine gR ?_);(refine z31 rfl ?_;intro K hK;(conv=>whnf)))))
            all_goals exact ⟨rfl,MemFits.pre 1 rfl⟩
        · have hyl:Po.fitsL l=true:=hfl.2 fun x hx=>by
            obtain ⟨j,hj,e⟩:=List.getElem_of_mem hx
            exact hgone j x (by omega) (by rw [← e];exact List.getElem?_eq_getElem hj)
          rw [hyl]
          clear ih hfl hgone
          (repeat' (first|(with_reducible first|(refine hK _ _ ?_;clear hK K)|(refine hB ?_;clear hA hB A B)|(refine hK _ ?_;clear hK K))|((with_reducible refine z25 ?_);intro K hK;(conv=>whnf))|(with_reducible refine z0 ?_)|(((with_reducible refine NIf.decN ?s ?_);case s=>omega)<;>(conv=>whnf))|(with_reducible first|refine z3 ?_|refine z4 ?_|refine z7 ?_|refine z8 ?_)|((with_reducible refine z29 ?_);intro A B hA hB;(conv=>whnf))|(with_reducible first|refine z1 ?_|refine z2 ?_|refine z10 ?_|refine z11 ?_|refine z19 ?_)|((with_reducible refine gR ?_);(refine z31 rfl ?_;intro K hK;(conv=>whnf)))))
          all_goals exact ⟨rfl,MemFits.pre 1 rfl⟩
    · rw [show Po.shape 2 (.mk pk pf pv pl) f v l.length=false by rw [hsh];exact decide_eq_false (fun h=>by
        rcases h with ⟨a1,a2,a3⟩ | ⟨a1,a2,a3⟩ | ⟨a1,a2,a3⟩ | ⟨a1,a2,a3⟩<;>first | omega | (clear a2;exact hq (by omega)))]
      clear hsh hfl ih
      rw [Bool.false_and]
      (repeat' (first|(with_reducible first|(refine hK _ _ ?_;clear hK K)|(refine hA ?_;clear hA hB A B)|(refine hB ?_;clear hA hB A B)|(refine hK _ ?_;clear hK K))|((with_reducible first|refine z25 ?_|refine z26 ?_);intro K hK;(conv=>whnf))|(with_reducible refine z0 ?_)|((first|((with_reducible refine NIf.yes ?s ?_);case s=>(simp ;done))|((with_reducible refine NIf.no ?s ?_);case s=>(simp ;done))|with_reducible refine NIf.not_ ?_|((with_reducible refine NIf.decY ?s ?_);case s=>assumption)|((with_reducible refine NIf.decN ?s ?_);case s=>first|assumption|omega)|(with_reducible first|refine NIf.dec (fun _=>?_) (fun _=>?_)|refine NN.a5 ?_)|((with_reducible refine NH.mk ?s ?_);case s=>(and_intros<;>first|with_reducible rfl|((with_reducible refine gKept ?_);exact rfl)|omega|rfl))|((with_reducible refine NCall.isF 13 ?_);refine NCall.subE [0] (cn) rfl (by decide) rfl rfl ?_)|((with_reducible refine NCall.isF 71 ?_);refine NCall.pureE (ct) ?_))<;>(conv=>whnf))|(with_reducible refine st_ordSout ?_)|((with_reducible refine gNOK ?_);(first|(refine st_ordK1 rfl (by kernel_rfl) rfl ?_;intro K hK;(conv=>whnf))|(refine st_ordK1g rfl (by kernel_rfl) rfl ?_;intro K hK;(conv=>whnf))|refine st_ordK0 rfl (by kernel_rfl) ?_|refine st_ordKA rfl rfl (by kernel_rfl) (by intro h;cases h) ?_))|((with_reducible refine gNEK ?_);(first|(refine st_eachKg rfl ?_ ?_;(intro K hK;(conv=>whnf)))|exact st_eachK0))|((with_reducible refine gX ?_);(first|refine st_orderS [] rfl rfl (by kernel_rfl) _ rfl ?_|(with_reducible first|refine z3 ?_|refine z4 ?_|refine z6 ?_|refine z8 ?_)|((with_reducible refine z29 ?_);intro A B hA hB;(conv=>whnf))))|(with_reducible first|refine z1 ?_|refine z2 ?_|refine z12 ?_)|((with_reducible refine gR ?_);(refine z31 rfl ?_;intro K hK;(conv=>whnf)))|((with_reducible refine gF ?_);(refine z33 rfl ?_;intro K hK;(conv=>whnf)))|((intro _;skip)<;>(conv=>whnf))))
      all_goals first
        | exact ⟨rfl,MemFits.pre 1 rfl⟩
        | (exfalso;omega)
end
end Go.Proofs.YtaojbkphcnailaaDoor
namespace Go.Proofs.YtaojbkphcnailaaDoor
open Go.Sx
set_option maxRecDepth 20000
set_option linter.unusedSimpArgs false
set_option linter.unusedVariables false
set_option maxHeartbeats 4000000
set_option linter.unusedVariables false
section
variable (F:Heap)
theorem fits27_3 (pk pf pv:Int) (pl:List Pd.T) (f v:Int) (l:List Po.T) (pu u:Value) (tp:Int) (nb rb:Bool) (htp:Pd.top f=tp) (hnb:Pd.same (.mk pk pf pv pl) Po.noneP=nb) (hrb:Pd.right (.mk pk pf pv pl)=rb) (hu:Po.Row F u l) (hok:SlOk u l.length) (hpok:SlOk pu pl.length) (hln:l.length≤4611686018427387904)
    (ih:∀ x∈l,∀ pA A,Po.At F x pA A→NCall Tryd.prog 34 [.agg (Po.cs x pA A)] [hpB F] fun r m=>r = .bool (Po.fits x)∧m=[hpB F])
    (ct:NCall Tryd.prog 71 [.int .i64 f] [] fun r _=>r = .int .i64 tp)
    (cr:NCall Tryd.prog 19 [.agg [.int .i64 pk,.int .i64 pf,.int .i64 pv,.hs pu pl.length]] [hpB F] fun r m=>r = .bool rb∧m=[hpB F])
    (cn:NCall Tryd.prog 13 [.agg [.int .i64 pk,.int .i64 pf,.int .i64 pv,.hs pu pl.length],.agg [.int .i64 0,.int .i64 0,.int .i64 0,.hs (.slice none 0 0) 0]] [hpB F] fun r m=>r = .bool nb∧m=[hpB F]) :
    NCall Tryd.prog 34 [.agg [.int .i64 3,.int .i64 pk,.int .i64 pf,.int .i64 pv,.hs pu pl.length,.int .i64 f,.int .i64 v,.hs u l.length]] [hpB F] fun r m=>r = .bool (Po.shape 3 (.mk pk pf pv pl) f v l.length&&Po.fitsL l)∧MemFits m [hpB F]:=by
  have hfl:=Po.fitsL_iff l
  have hsh:Po.shape 3 (.mk pk pf pv pl) f v l.length=decide ((3:Int)=1∧rb=true∧(f=0∧v=0)∧l.length=0∨(3:Int)=2∧nb=true∧(0≤f∧f≤4)∧(0≤v∧v≤tp)∧l.length=0∨((3:Int)=3∨(3:Int)=4)∧nb=true∧(f=0∧v=0)∧2≤l.length∧l.length≤8∨(3:Int)=5∧rb=true∧(f=0∧v=0)∧l.length=2):=by rw [← htp,← hnb,← hrb];rfl
  clear htp hnb hrb
  refine ncall_of Tryd.func34 rfl (by decide) ?_
  cases nb
  · rw [show Po.shape 3 (.mk pk pf pv pl) f v l.length=false by rw [hsh];exact decide_eq_false (fun h=>by
      rcases h with ⟨a1,a2,a3⟩ | ⟨a1,a2,a3⟩ | ⟨a1,a2,a3⟩ | ⟨a1,a2,a3⟩<;>first | (cases a2;done) | omega)]
    clear hsh hfl ih
    rw [Bool.false_and]
    by_cases hq0:f=0∧v=0
    · (repeat' (first|(with_reducible first|(refine hK _ _ ?_;clear hK K)|(refine hA ?_;clear hA hB A B)|(refine hB ?_;clear hA hB A B)|(refine hK _ ?_;clear hK K))|((with_reducible first|refine z25 ?_|refine z26 ?_);intro K hK;(conv=>whnf))|(with_reducible refine z0 ?_)|((first|((with_reducible refine NIf.yes ?s ?_);case s=>(simp ;done))|((with_reducible refine NIf.no ?s ?_);case s=>(simp ;done))|with_reducible refine NIf.not_ ?_|((with_reducible refine NIf.decY ?s ?_);case s=>omega)|(with_reducible refine NN.a5 ?_)|((with_reducible refine NH.mk ?s ?_);case s=>(and_intros<;>first|with_reducible rfl|omega))|((with_reducible refine NCall.isF 13 ?_);refine NCall.subE [0] (cn) rfl (by decide) rfl rfl ?_))<;>(conv=>whnf))|(with_reducible first|refine z3 ?_|refine z4 ?_|refine z6 ?_|refine z8 ?_)|((with_reducible refine z29 ?_);intro A B hA hB;(conv=>whnf))|(with_reducible first|refine z1 ?_|refine z2 ?_|refine z12 ?_)|((with_reducible refine gR ?_);(refine z31 rfl ?_;intro K hK;(conv=>whnf)))|((with_reducible refine gF ?_);(refine z33 rfl ?_;intro K hK;(conv=>whnf)))|((intro _;skip)<;>(conv=>whnf))))
      all_goals first
        | exact ⟨rfl,MemFits.pre 1 rfl⟩
        | (exfalso;omega)
    · (repeat' (first|(with_reducible first|(refine hK _ _ ?_;clear hK K)|(refine hA ?_;clear hA hB A B)|(refine hK _ ?_;clear hK K))|((with_reducible first|refine z25 ?_|refine z26 ?_);intro K hK;(conv=>whnf))|(with_reducible refine z0 ?_)|((first|((with_reducible refine NIf.yes ?s ?_);case s=>(simp ;done))|((with_reducible refine NIf.no ?s ?_);case s=>(simp ;done))|with_reducible refine NIf.not_ ?_|((with_reducible refine NIf.decY ?s ?_);case s=>assumption)|((with_reducible refine NIf.decN ?s ?_);case s=>first|assumption|omega)|(with_reducible first|refine NIf.dec (fun _=>?_) (fun _=>?_)|refine NN.a5 ?_)|((with_reducible refine NH.mk ?s ?_);case s=>(and_intros<;>first|with_reducible rfl|omega)))<;>(conv=>whnf))|(with_reducible first|refine z3 ?_|refine z4 ?_|refine z8 ?_)|((with_reducible refine z29 ?_);intro A B hA hB;(conv=>whnf))|(with_reducible first|refine z1 ?_|refine z2 ?_|refine z12 ?_)|((with_reducible refine gR ?_);(refine z31 rfl ?_;intro K hK;(conv=>whnf)))|((with_reducible refine gF ?_);(refine z33 rfl ?_;intro K hK;(conv=>whnf)))|((intro _;skip)<;>(conv=>whnf))))
      all_goals first
        | exact ⟨rfl,MemFits.pre 1 rfl⟩
        | (exfalso;omega)
  · by_cases hq:(f=0∧v=0)∧2≤l.length∧l.length≤8
    · rw [show Po.shape 3 (.mk pk pf pv pl) f v l.length=true by rw [hsh];exact decide_eq_true (.inr (.inr (.inl ⟨.inl rfl,rfl,hq.1,hq.2.1,hq.2.2⟩)))]
      clear hsh
      rw [Bool.true_and]
      (repeat' (first|(with_reducible first|(refine hK _ _ ?_;clear hK K)|(refine hB ?_;clear hA hB A B)|(refine hK _ ?_;clear hK K))|((with_reducible first|refine z25 ?_|refine z26 ?_);intro K hK;(conv=>whnf))|(with_reducible refine z0 ?_)|((first|((with_reducible refine NIf.yes ?s ?_);case s=>(simp ;done))|((with_reducible refine NIf.no ?s ?_);case s=>(simp ;done))|with_reducible refine NIf.not_ ?_|((with_reducible refine NIf.decY ?s ?_);case s=>omega)|((with_reducible refine NIf.decN ?s ?_);case s=>omega)|(with_reducible refine NN.a5 ?_)|((with_reducible refine NH.mk ?s ?_);case s=>(and_intros<;>first|with_reducible rfl|omega|rfl))|((with_reducible refine NCall.isF 13 ?_);refine NCall.subE [0] (cn) rfl (by decide) rfl rfl ?_))<;>(conv=>whnf))|(with_reducible refine st_ordSout ?_)|((with_reducible refine gNOK ?_);(first|(refine st_ordK1 rfl (by kernel_rfl) rfl ?_;intro K hK;(conv=>whnf))|(refine st_ordK1g rfl (by kernel_rfl) rfl ?_;intro K hK;(conv=>whnf))|refine st_ordK0 rfl (by kernel_rfl) ?_|refine st_ordKA rfl rfl (by kernel_rfl) (by intro h;cases h) ?_))|((with_reducible refine gNEK ?_);(first|(refine st_eachKg rfl ?_ ?_;(intro K hK;(conv=>whnf)))|exact st_eachK0))|((with_reducible refine gX ?_);(first|refine st_orderS [] rfl rfl (by kernel_rfl) _ rfl ?_|(with_reducible first|refine z3 ?_|refine z4 ?_|refine z5 ?_|refine z6 ?_)|((with_reducible refine z29 ?_);intro A B hA hB;(conv=>whnf))))|(with_reducible first|refine z1 ?_|refine z2 ?_)|((with_reducible refine gF ?_);(refine z33 rfl ?_;intro K hK;(conv=>whnf)))|((intro _;skip)<;>(conv=>whnf))))
      all_goals try (exfalso;omega)
      all_goals
        refine st_auto (α:=Nat) (fun i=>i≤l.length∧∀ (j:Nat) (x:Po.T),j<i→l[j]?=some x→Po.fits x=true) (fun i=>[.keep,.keep,.drop,.keep,.keep,.set (.int .i64 i),.keep,.keep,.keep,.keep,.keep,.keep,.keep,.keep,.keep,.keep,.keep,.keep,.keep,.keep,.keep,.keep,.keep,.keep,.keep,.keep,.keep,.keep,.keep,.keep,.keep,.keep,.keep,.keep,.keep,.keep,.keep,.keep,.keep,.keep,.keep,.keep,.keep,.keep,.keep,.keep,.keep,.keep,.keep,.keep,.keep,.keep,.keep,.keep,.keep,.keep,.keep,.keep,.keep,.keep,.keep,.keep,.keep,.keep,.keep,.keep,.keep,.keep,.keep,.keep,.keep,.keep,.keep,.keep,.keep,.keep,.keep,.keep,.keep,.keep,.keep,.keep,.keep,.keep,.keep,.keep,.keep,.keep,.keep,.keep,.keep,.keep,.keep,.keep,.keep,.keep,.keep,.keep,.keep,.keep,.keep,.keep,.keep,.keep,.keep,.keep,.keep,.keep,.keep,.keep,.keep,.keep,.keep,.keep,.keep,.keep,.keep,.keep,.drop,.drop,.drop,.drop,.drop,.drop,.drop,.drop,.drop,.drop,.drop,.drop]) (fun _=>[]) (fun i=>l.length - i) 0 ⟨Nat.zero_le _,fun j x hj=>absurd hj (Nat.not_lt_zero _)⟩ ?_ (MemFits.eq rfl) ?_
        · repeat (first|exact FitsSl.nil|refine FitsSl.any ?_|refine FitsSl.cons (Fit1.int (by first | rfl | omega)) ?_|refine FitsSl.cons (Fit1.bool rfl) ?_|refine FitsSl.cons (Fit1.same (by intro h;cases h) (by with_reducible rfl)) ?_)
        (intro i ⟨hi,hgone⟩;intro K hK;(conv=>whnf);refine hK _ _ ?_;clear hK K)
        by_cases hlt:i<l.length
        · have hx:l[i]?=some l[i]:=List.getElem?_eq_getElem hlt
          obtain ⟨pA,pcap,A,cap,hA,c0,c1,c2,c3,c4,c5,c6,c7⟩:=hu.get hx
          have hAo:=hA.l.ok
          have hAp:=hA.p.ok
          have hmem:=List.mem_of_getElem? hx
          have c:=ih _ hmem _ _ hA
          clear ih
          have hbad:Po.fits l[i]=false→Po.fitsL l=false:=fun hb=>by
            cases h:Po.fitsL l with
            | false=>rfl
            | true=>have:=hfl.1 h _ hmem;rw [hb] at this;cases this
          have hgood0:Po.fits l[i]=true→∀ (j:Nat) (x:Po.T),j<i+1→l[j]?=some x→Po.fits x=true:=fun hg j y hj hy=>by
            by_cases e:j=i
            · subst e
              rw [hx] at hy
              injection hy with hy
              rw [← hy];exact hg
            · exact hgone j y (by omega) hy
          clear hgone hfl
          cases hq:Po.fits l[i] with
          | true =>
            rw [hq] at c
            have hgood:=hgood0 hq
            clear hbad hq hgood0
            generalize l[i]=y at *
            obtain ⟨yk,⟨ypk,ypf,ypv,ypl⟩,yf,yv,yl⟩:=y
            simp only [Po.cs,Po.T.k,Po.T.p,Po.T.f,Po.T.v,Po.T.l,Pd.T.k,Pd.T.f,Pd.T.v,Pd.T.l] at c c0 c1 c2 c3 c4 c5 c6 c7 hAo hAp
            (repeat' (first|(with_reducible first|(refine hK _ _ ?_;clear hK K)|(refine hA ?_;clear hA hB A B)|(refine hB ?_;clear hA hB A B))|((with_reducible refine z25 ?_);intro K hK;(conv=>whnf))|(with_reducible refine z0 ?_)|((first|((with_reducible refine NV.i64 ?s ?_);case s=>omega)|with_reducible refine NIf.not_ ?_|((with_reducible refine NIf.decY ?s ?_);case s=>omega)|((with_reducible refine NIf.yes ?s ?_);case s=>rfl)|(with_reducible first|refine NN.cast ?_|refine NN.a5 ?_|refine NN.keep ?_)|((with_reducible refine NH.mk ?s ?_);case s=>(and_intros<;>first|with_reducible rfl|omega))|((with_reducible refine NCall.isF 34 ?_);refine NCall.subE [0] (c) rfl (by decide) rfl rfl ?_)|(with_reducible refine NLd.of (by with_reducible assumption) ?_))<;>(conv=>whnf))|(with_reducible first|refine z3 ?_|refine z4 ?_|refine z5 ?_|refine z6 ?_)|((with_reducible refine z29 ?_);intro A B hA hB;(conv=>whnf))|(with_reducible first|refine z1 ?_|refine z2 ?_|refine z9 ?_)))
            refine st_round (i+1) ⟨hlt,hgood⟩ (by omega) ?_ (MemFits.eq rfl)
            repeat (first|exact FitsSl.nil|refine FitsSl.any ?_|refine FitsSl.cons (Fit1.int (by first | rfl | omega)) ?_|refine FitsSl.cons (Fit1.bool rfl) ?_|refine FitsSl.cons (Fit1.same (by intro h;cases h) (by with_reducible rfl)) ?_)
          | false =>
            rw [hq] at c
            rw [hbad hq]
            clear hbad hgood0 hq
            generalize l[i]=y at *
            obtain ⟨yk,⟨ypk,ypf,ypv,ypl⟩,yf,yv,yl⟩:=y
            simp only [Po.cs,Po.T.k,Po.T.p,Po.T.f,Po.T.v,Po.T.l,Pd.T.k,Pd.T.f,Pd.T.v,Pd.T.l] at c c0 c1 c2 c3 c4 c5 c6 c7 hAo hAp
            (repeat' (first|(with_reducible first|(refine hK _ _ ?_;clear hK K)|(refine hA ?_;clear hA hB A B)|(refine hK _ ?_;clear hK K))|((with_reducible refine z25 ?_);intro K hK;(conv=>whnf))|(with_reducible refine z0 ?_)|((first|with_reducible refine NIf.not_ ?_|((with_reducible refine NIf.decY ?s ?_);case s=>omega)|((with_reducible refine NIf.no ?s ?_);case s=>rfl)|(with_reducible first|refine NN.cast ?_|refine NN.a5 ?_|refine NN.keep ?_)|((with_reducible refine NH.mk ?s ?_);case s=>(and_intros<;>first|with_reducible rfl|omega))|((with_reducible refine NCall.isF 34 ?_);refine NCall.subE [0] (c) rfl (by decide) rfl rfl ?_)|(with_reducible refine NLd.of (by with_reducible assumption) ?_))<;>(conv=>whnf))|(with_reducible first|refine z3 ?_|refine z4 ?_|refine z5 ?_|refine z6 ?_|refine z8 ?_)|((with_reducible refine z29 ?_);intro A B hA hB;(conv=>whnf))|(with_reducible first|refine z1 ?_|refine z2 ?_|refine z12 ?_|refine z13 ?_|refine z20 ?_)|((with_reducible refine gR ?_);(refine z31 rfl ?_;intro K hK;(conv=>whnf)))))
            all_goals exact ⟨rfl,MemFits.pre 1 rfl⟩
        · have hyl:Po.fitsL l=true:=hfl.2 fun x hx=>by
            obtain ⟨j,hj,e⟩:=List.getElem_of_mem hx
            exact hgone j x (by omega) (by rw [← e];exact List.getElem?_eq_getElem hj)
          rw [hyl]
          clear ih hfl hgone
          (repeat' (first|(with_reducible first|(refine hK _ _ ?_;clear hK K)|(refine hB ?_;clear hA hB A B)|(refine hK _ ?_;clear hK K))|((with_reducible refine z25 ?_);intro K hK;(conv=>whnf))|(with_reducible refine z0 ?_)|(((with_reducible refine NIf.decN ?s ?_);case s=>omega)<;>(conv=>whnf))|(with_reducible first|refine z3 ?_|refine z4 ?_|refine z7 ?_|refine z8 ?_)|((with_reducible refine z29 ?_);intro A B hA hB;(conv=>whnf))|(with_reducible first|refine z1 ?_|refine z2 ?_|refine z10 ?_|refine z11 ?_|refine z19 ?_)|((with_reducible refine gR ?_);(refine z31 rfl ?_;intro K hK;(conv=>whnf)))))
          all_goals exact ⟨rfl,MemFits.pre 1 rfl⟩
    · rw [show Po.shape 3 (.mk pk pf pv pl) f v l.length=false by rw [hsh];exact decide_eq_false (fun h=>by
        rcases h with ⟨a1,a2,a3⟩ | ⟨a1,a2,a3⟩ | ⟨a1,a2,a3⟩ | ⟨a1,a2,a3⟩<;>first | omega | (clear a2;exact hq (by omega)))]
      clear hsh hfl ih
      rw [Bool.false_and]
      (repeat' (first|(with_reducible first|(refine hK _ _ ?_;clear hK K)|(refine hA ?_;clear hA hB A B)|(refine hB ?_;clear hA hB A B)|(refine hK _ ?_;clear hK K))|((with_reducible first|refine z25 ?_|refine z26 ?_);intro K hK;(conv=>whnf))|(with_reducible refine z0 ?_)|((first|((with_reducible refine NIf.yes ?s ?_);case s=>(simp ;done))|((with_reducible refine NIf.no ?s ?_);case s=>(simp ;done))|with_reducible refine NIf.not_ ?_|((with_reducible refine NIf.decY ?s ?_);case s=>first|assumption|omega)|((with_reducible refine NIf.decN ?s ?_);case s=>assumption)|(with_reducible first|refine NIf.dec (fun _=>?_) (fun _=>?_)|refine NN.a5 ?_)|((with_reducible refine NH.mk ?s ?_);case s=>(and_intros<;>first|with_reducible rfl|omega|rfl))|((with_reducible refine NCall.isF 13 ?_);refine NCall.subE [0] (cn) rfl (by decide) rfl rfl ?_))<;>(conv=>whnf))|(with_reducible refine st_ordSout ?_)|((with_reducible refine gNOK ?_);(first|(refine st_ordK1 rfl (by kernel_rfl) rfl ?_;intro K hK;(conv=>whnf))|(refine st_ordK1g rfl (by kernel_rfl) rfl ?_;intro K hK;(conv=>whnf))|refine st_ordK0 rfl (by kernel_rfl) ?_|refine st_ordKA rfl rfl (by kernel_rfl) (by intro h;cases h) ?_))|((with_reducible refine gNEK ?_);(first|(refine st_eachKg rfl ?_ ?_;(intro K hK;(conv=>whnf)))|exact st_eachK0))|((with_reducible refine gX ?_);(first|refine st_orderS [] rfl rfl (by kernel_rfl) _ rfl ?_|(with_reducible first|refine z3 ?_|refine z4 ?_|refine z6 ?_|refine z8 ?_)|((with_reducible refine z29 ?_);intro A B hA hB;(conv=>whnf))))|(with_reducible first|refine z1 ?_|refine z2 ?_|refine z12 ?_)|((with_reducible refine gR ?_);(refine z31 rfl ?_;intro K hK;(conv=>whnf)))|((with_reducible refine gF ?_);(refine z33 rfl ?_;intro K hK;(conv=>whnf)))|((intro _;skip)<;>(conv=>whnf))))
      all_goals first
        | exact ⟨rfl,MemFits.pre 1 rfl⟩
        | (exfalso;omega)
end
end Go.Proofs.YtaojbkphcnailaaDoor
