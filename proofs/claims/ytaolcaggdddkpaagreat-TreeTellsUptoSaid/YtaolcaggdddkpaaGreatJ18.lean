import Derived.Test.YtaolcaggdddkpaaGreatJ5
import Derived.Test.YtaolcaggdddkpaaGreatJ16
import Derived.Test.YtaolcaggdddkpaaGreatJ17
namespace Go.Sx
set_option linter.unusedVariables false
section
variable {P:Program}
end
end Go.Sx
namespace Go.Proofs.YtaolcaggdddkpaaGreat
open Go.Sx
set_option maxRecDepth 20000
set_option linter.unusedSimpArgs false
set_option linter.unusedVariables false
set_option maxHeartbeats 16000000
namespace Tr
def fK (k:Int):Int:=if k=0 then 4 else k - 1
theorem fK_ok {k:Int} (h:0≤k∧k≤4):ok (fK k):=by unfold fK;split<;>constructor<;>omega
theorem with_iff {f:Int} (hf:ok f) (v w:Int) (s t:Po.S):withK f v s=withK f v t↔withK f w s=withK f w t:=by
 have key:∀ v w:Int,withK f v s=withK f v t→withK f w s=withK f w t:=fun v w h=>S_ext fun g hg=>by
  by_cases e:g=f
  ·subst e;rw [gt_same,gt_same]
  ·rw [gt_other w s hf hg e,gt_other w t hf hg e,← gt_other v s hf hg e,← gt_other v t hf hg e,h]
 exact ⟨key v w,key w v⟩
end Tr
theorem field31_c (k:Int) (hk:0≤k∧k≤4):NCall Tryz.prog 64 [.int .i64 k] [] fun r _=>r = .int .i64 (Tr.fK k):=by
 refine ncall_of Tryz.func64 rfl (by decide) ?_
 unfold Tr.fK
 by_cases h:k=0
 ·rw [if_pos h]
  (repeat' (first|(with_reducible first|(refine hK _ _ ?_;clear hK K)|(refine hA ?_;clear hA hB A B)|(refine hK _ ?_;clear hK K))|((with_reducible refine z25 ?_);intro K hK;(conv=>whnf))|(with_reducible refine z0 ?_)|(((with_reducible refine NIf.decY ?s ?_);case s=>assumption)<;>(conv=>whnf))|(with_reducible first|refine z3 ?_|refine z4 ?_|refine z8 ?_)|((with_reducible refine z29 ?_);intro A B hA hB;(conv=>whnf))|(with_reducible first|refine z1 ?_|refine z2 ?_|refine z12 ?_)|((with_reducible refine gR ?_);(refine z31 rfl ?_;intro K hK;(conv=>whnf)))|((with_reducible refine gF ?_);(refine z33 rfl ?_;intro K hK;(conv=>whnf)))))
  all_goals first | (exfalso;omega) | rfl
 ·rw [if_neg h]
  (repeat' (first|(with_reducible first|(refine hK _ _ ?_;clear hK K)|(refine hB ?_;clear hA hB A B)|(refine hK _ ?_;clear hK K))|((with_reducible refine z25 ?_);intro K hK;(conv=>whnf))|(with_reducible refine z0 ?_)|((first|((with_reducible refine NV.i64 ?s ?_);case s=>omega)|((with_reducible refine NIf.decN ?s ?_);case s=>assumption))<;>(conv=>whnf))|(with_reducible first|refine z3 ?_|refine z4 ?_|refine z6 ?_|refine z8 ?_)|((with_reducible refine z29 ?_);intro A B hA hB;(conv=>whnf))|(with_reducible first|refine z1 ?_|refine z2 ?_)|((with_reducible refine gR ?_);(refine z31 rfl ?_;intro K hK;(conv=>whnf)))|((with_reducible refine gF ?_);(refine z33 rfl ?_;intro K hK;(conv=>whnf)))))
  all_goals first | (exfalso;omega) | rfl
theorem refwith31_c (s:Po.S) (k v:Int) (hk:0≤k∧k≤4):NCall Tryz.prog 65 [.agg [.int .i64 s.port,.int .i64 s.p0,.int .i64 s.p1,.int .i64 s.p2,.int .i64 s.p3,.raw (.slice none 0 0)],.int .i64 k,.int .i64 v] [] fun r _=>r = .agg [.int .i64 (Tr.withK (Tr.fK k) v s).port,.int .i64 (Tr.withK (Tr.fK k) v s).p0,.int .i64 (Tr.withK (Tr.fK k) v s).p1,.int .i64 (Tr.withK (Tr.fK k) v s).p2,.int .i64 (Tr.withK (Tr.fK k) v s).p3,.raw (.slice none 0 0)]:=by
 refine ncall_of Tryz.func65 rfl (by decide) ?_
 obtain ⟨s0,s1,s2,s3,s4⟩:=s
 have:k=0∨k=1∨k=2∨k=3∨k=4:=by omega
 rcases this with rfl | rfl | rfl | rfl | rfl
 all_goals
  simp only [Tr.withK,Tr.fK]
  (repeat' (first|(with_reducible first|(refine hK _ _ ?_;clear hK K)|(refine hA ?_;clear hA hB A B)|(refine hB ?_;clear hA hB A B)|(refine hK _ ?_;clear hK K))|((with_reducible refine z25 ?_);intro K hK;(conv=>whnf))|(with_reducible refine z0 ?_)|((first|((with_reducible refine NV.i64 ?s ?_);case s=>omega)|((with_reducible refine NIf.decY ?s ?_);case s=>with_reducible rfl)|((with_reducible refine NIf.decN ?s ?_);case s=>omega)|(with_reducible first|refine NN.a3 ?_|refine NN.a5 ?_|refine NN.keep ?_)|((with_reducible refine NH.mk ?s ?_);case s=>(and_intros<;>first|with_reducible rfl|((with_reducible refine gOnes ?_);rfl)|((with_reducible refine gLen ?_);rfl)|omega)))<;>(conv=>whnf))|(with_reducible first|refine z3 ?_|refine z4 ?_|refine z8 ?_)|((with_reducible refine z29 ?_);intro A B hA hB;(conv=>whnf))|(with_reducible first|refine z1 ?_|refine z2 ?_)|((with_reducible refine gR ?_);(refine z31 rfl ?_;intro K hK;(conv=>whnf)))|((with_reducible refine gF ?_);(refine z33 rfl ?_;intro K hK;(conv=>whnf)))|((intro _;skip)<;>(conv=>whnf))))
  all_goals rfl
theorem refwith31_h (s:Po.S) (k v:Int) (w:Value) (n:Nat) (hk:0≤k∧k≤4):NCall Tryz.prog 65 [.agg [.int .i64 s.port,.int .i64 s.p0,.int .i64 s.p1,.int .i64 s.p2,.int .i64 s.p3,.hs w n],.int .i64 k,.int .i64 v] [] fun r _=>r = .agg [.int .i64 (Tr.withK (Tr.fK k) v s).port,.int .i64 (Tr.withK (Tr.fK k) v s).p0,.int .i64 (Tr.withK (Tr.fK k) v s).p1,.int .i64 (Tr.withK (Tr.fK k) v s).p2,.int .i64 (Tr.withK (Tr.fK k) v s).p3,.hs w n]:=by
 refine ncall_of Tryz.func65 rfl (by decide) ?_
 obtain ⟨s0,s1,s2,s3,s4⟩:=s
 have:k=0∨k=1∨k=2∨k=3∨k=4:=by omega
 rcases this with rfl | rfl | rfl | rfl | rfl
 all_goals
  simp only [Tr.withK,Tr.fK]
  (repeat' (first|(with_reducible first|(refine hK _ _ ?_;clear hK K)|(refine hA ?_;clear hA hB A B)|(refine hB ?_;clear hA hB A B)|(refine hK _ ?_;clear hK K))|((with_reducible refine z25 ?_);intro K hK;(conv=>whnf))|(with_reducible refine z0 ?_)|((first|((with_reducible refine NV.i64 ?s ?_);case s=>omega)|((with_reducible refine NIf.decY ?s ?_);case s=>with_reducible rfl)|((with_reducible refine NIf.decN ?s ?_);case s=>omega)|(with_reducible first|refine NN.a3 ?_|refine NN.a5 ?_|refine NN.keep ?_)|((with_reducible refine NH.mk ?s ?_);case s=>(and_intros<;>first|with_reducible rfl|((with_reducible refine gOnes ?_);rfl)|((with_reducible refine gLen ?_);rfl)|omega)))<;>(conv=>whnf))|(with_reducible first|refine z3 ?_|refine z4 ?_|refine z8 ?_)|((with_reducible refine z29 ?_);intro A B hA hB;(conv=>whnf))|(with_reducible first|refine z1 ?_|refine z2 ?_)|((with_reducible refine gR ?_);(refine z31 rfl ?_;intro K hK;(conv=>whnf)))|((with_reducible refine gF ?_);(refine z33 rfl ?_;intro K hK;(conv=>whnf)))|((intro _;skip)<;>(conv=>whnf))))
  all_goals rfl
theorem refsame31_c (F:Heap) (k:Int) (hk:0≤k∧k≤4) (v w:Value) (a b:List Tr.C) (hv:Tr.Row F v a) (hw:Tr.Row F w b) (ha:a.length≤4611686018427387904) (hb:b.length≤4611686018427387904) (ha2:∀ c∈a,c.out.length≤1000) (hb2:∀ c∈b,c.out.length≤1000) :
  NCall Tryz.prog 66 [.hs v a.length,.hs w b.length,.int .i64 k] [hpB F] fun r m=>r = .bool (Tr.alike (Tr.fK k) a b)∧m=[hpB F]:=by
 refine NCall.fits (K:=fun r m=>r = .bool (Tr.alike (Tr.fK k) a b)∧MemFits m [hpB F]) ?_ fun r m' h=>⟨r,_,rfl,h.2,h.1,rfl⟩
 have hok:=hv.ok
 have hok2:=hw.ok
 have hs:=Tr.alike_iff (Tr.fK k) a b
 have hfk:=Tr.fK_ok hk
 refine ncall_of Tryz.func66 rfl (by decide) ?_
 by_cases hl:a.length=b.length
 rotate_left
 ·have hne:Tr.alike (Tr.fK k) a b=false:=by
   cases h:Tr.alike (Tr.fK k) a b with
   | false=>rfl
   | true=>exact (hl (hs.1 h).1).elim
  rw [hne]
  (repeat' (first|(with_reducible first|(refine hK _ _ ?_;clear hK K)|(refine hA ?_;clear hA hB A B)|(refine hK _ ?_;clear hK K))|((with_reducible refine z25 ?_);intro K hK;(conv=>whnf))|(with_reducible refine z0 ?_)|((first|with_reducible refine NIf.not_ ?_|((with_reducible refine NIf.decN ?s ?_);case s=>omega)|((with_reducible refine NH.mk ?s ?_);case s=>(and_intros<;>omega)))<;>(conv=>whnf))|(with_reducible first|refine z3 ?_|refine z4 ?_|refine z8 ?_)|((with_reducible refine z29 ?_);intro A B hA hB;(conv=>whnf))|(with_reducible first|refine z1 ?_|refine z2 ?_|refine z12 ?_)|((with_reducible refine gR ?_);(refine z31 rfl ?_;intro K hK;(conv=>whnf)))|((with_reducible refine gF ?_);(refine z33 rfl ?_;intro K hK;(conv=>whnf)))))
  all_goals first | (exfalso;omega) | exact ⟨rfl,MemFits.pre 1 rfl⟩
 (repeat' (first|(with_reducible first|(refine hK _ _ ?_;clear hK K)|(refine hB ?_;clear hA hB A B)|(refine hK _ ?_;clear hK K))|((with_reducible refine z25 ?_);intro K hK;(conv=>whnf))|(with_reducible refine z0 ?_)|((first|with_reducible refine NIf.not_ ?_|((with_reducible refine NIf.decY ?s ?_);case s=>omega)|((with_reducible refine NH.mk ?s ?_);case s=>(and_intros<;>omega)))<;>(conv=>whnf))|(with_reducible first|refine z3 ?_|refine z4 ?_|refine z5 ?_|refine z6 ?_)|((with_reducible refine z29 ?_);intro A B hA hB;(conv=>whnf))|(with_reducible first|refine z1 ?_|refine z2 ?_)|((with_reducible refine gF ?_);(refine z33 rfl ?_;intro K hK;(conv=>whnf)))))
 all_goals first | (exfalso;omega) | skip
 refine st_auto (α:=Nat) (fun j=>j≤a.length∧∀ (i:Nat) (x y:Tr.C),i<j→a[i]?=some x→b[i]?=some y→Tr.free (Tr.fK k) x=Tr.free (Tr.fK k) y) (fun j=>[.keep,.keep,.keep,.keep,.keep,.keep,.set (.bool false),.set (.int .i64 j),.drop,.drop,.keep,.keep,.keep,.keep,.keep,.drop,.drop,.drop,.drop,.drop,.drop,.drop,.drop,.drop,.drop,.drop,.drop,.drop,.drop,.drop,.drop,.drop,.drop,.drop,.drop,.drop,.drop,.drop,.drop,.drop,.drop,.drop,.drop,.drop,.drop,.drop,.drop,.drop,.drop,.drop,.drop,.drop,.drop]) (fun _=>[]) (fun j=>a.length - j) 0 ⟨Nat.zero_le _,fun j x y hj=>absurd hj (Nat.not_lt_zero _)⟩ ?_ (MemFits.eq rfl) ?_
 ·repeat (first|exact FitsSl.nil|refine FitsSl.any ?_|refine FitsSl.cons (Fit1.int (by first | rfl | omega)) ?_|refine FitsSl.cons (Fit1.bool rfl) ?_|refine FitsSl.cons (Fit1.same (by intro h;cases h) (by with_reducible rfl)) ?_)
 (intro j ⟨hj,hgone⟩;intro K hK;(conv=>whnf);refine hK _ _ ?_;clear hK K)
 by_cases hlt:j<a.length
 ·have hx:a[j]?=some a[j]:=List.getElem?_eq_getElem hlt
  have hy:b[j]?=some (b[j]'(by omega)):=List.getElem?_eq_getElem (by omega)
  obtain ⟨A,cap,hA,c0,c1,c2,c3,c4,c5⟩:=hv.get hx
  obtain ⟨B,cap',hB,d0,d1,d2,d3,d4,d5⟩:=hw.get hy
  have hal:=ha2 _ (List.mem_of_getElem? hx)
  have hbl:=hb2 _ (List.mem_of_getElem? hy)
  have hoA:=hA.ok
  have hoB:=hB.ok
  have hq:=hs.1
  clear ha2 hb2
  generalize a[j]=x at *
  generalize (b[j]'(by omega))=y at *
  have cS:=sent27_c F (.slice A x.out.length cap) (.slice B y.out.length cap') x.out y.out hA hB (by omega) (by omega)
  have w1:=refwith31_h x.s k 0 (.slice A x.out.length cap) x.out.length hk
  have w2:=refwith31_h y.s k 0 (.slice B y.out.length cap') y.out.length hk
  have hfr:Tr.free (Tr.fK k) x=Tr.free (Tr.fK k) y↔Tr.withK (Tr.fK k) 0 x.s=Tr.withK (Tr.fK k) 0 y.s∧x.out=y.out:=by
   have e:=Tr.with_iff hfk 0 (-1) x.s y.s
   unfold Tr.free
   simp only [Tr.C.mk.injEq]
   exact and_congr e.symm Iff.rfl
  clear hA hB
  generalize Tr.withK (Tr.fK k) 0 x.s=X at *
  generalize Tr.withK (Tr.fK k) 0 y.s=Y at *
  obtain ⟨⟨x0,x1,x2,x3,x4⟩,xo⟩:=x
  obtain ⟨⟨y0,y1,y2,y3,y4⟩,yo⟩:=y
  obtain ⟨X0,X1,X2,X3,X4⟩:=X
  obtain ⟨Y0,Y1,Y2,Y3,Y4⟩:=Y
  simp only at c0 c1 c2 c3 c4 c5 d0 d1 d2 d3 d4 d5 w1 w2 cS hal hbl hoA hoB hfr
  have hne:∀ (P:Prop),¬ P→(Tr.free (Tr.fK k) (⟨⟨x0,x1,x2,x3,x4⟩,xo⟩:Tr.C)=Tr.free (Tr.fK k) ⟨⟨y0,y1,y2,y3,y4⟩,yo⟩→P)→Tr.alike (Tr.fK k) a b=false:=fun P hP h=>by
   cases h2:Tr.alike (Tr.fK k) a b with
   | false=>rfl
   | true=>exact absurd (h ((hq h2).2 j _ _ hx hy)) hP
  by_cases hXY:(⟨X0,X1,X2,X3,X4⟩:Po.S)=⟨Y0,Y1,Y2,Y3,Y4⟩
  ·injection hXY with e0 e1 e2 e3 e4
   subst e0 e1 e2 e3 e4
   by_cases hqo:xo=yo
   ·rw [decide_eq_true hqo] at cS
    (repeat' (first|(with_reducible first|(refine hK _ _ ?_;clear hK K)|(refine hA ?_;clear hA hB A B)|(refine hB ?_;clear hA hB A B)|(refine hK _ ?_;clear hK K))|((with_reducible first|refine z25 ?_|refine z26 ?_);intro K hK;(conv=>whnf))|(with_reducible refine z0 ?_)|((first|((with_reducible refine NV.i64 ?s ?_);case s=>omega)|((with_reducible refine NIf.no ?s ?_);case s=>(simp ;done))|((with_reducible refine NIf.decY ?s ?_);case s=>omega)|(with_reducible first|refine NN.cast ?_|refine NN.a5 ?_|refine NN.keep ?_)|((with_reducible refine NH.mk ?s ?_);case s=>(and_intros<;>first|with_reducible rfl|((with_reducible refine gOnes ?_);rfl)|((with_reducible refine gLen ?_);rfl)|((with_reducible refine gKept ?_);exact rfl)|omega))|((with_reducible refine NCall.isF 65 ?_);refine NCall.pureE (w1) ?_)|((with_reducible refine NCall.isF 65 ?_);refine NCall.pureE (w2) ?_)|((with_reducible refine NCall.isF 17 ?_);refine NCall.subE [0] (cS) rfl (by decide) rfl rfl ?_)|(with_reducible refine NLd.of (by with_reducible assumption) ?_))<;>(conv=>whnf))|(with_reducible refine st_ordSout ?_)|((with_reducible refine gNOK ?_);(first|(refine st_ordK1 rfl (by kernel_rfl) rfl ?_;intro K hK;(conv=>whnf))|refine st_ordK0 rfl (by kernel_rfl) ?_|refine st_ordKA rfl rfl (by kernel_rfl) (by intro h;cases h) ?_))|((with_reducible refine gNEK ?_);(first|(refine st_eachK ?_ ?_;(intro K hK;(conv=>whnf)))|exact st_eachK0))|((with_reducible refine gX ?_);(first|refine st_orderS [] rfl rfl (by kernel_rfl) _ rfl ?_|(with_reducible first|refine z3 ?_|refine z4 ?_|refine z5 ?_|refine z6 ?_)|((with_reducible refine z29 ?_);intro A B hA hB;(conv=>whnf))))|(with_reducible first|refine z1 ?_|refine z2 ?_|refine z9 ?_)|((refine NFlat_iff.2 ⟨⟨?s1,?s2⟩,?_⟩;(case s1=>decide +kernel);(case s2=>decide +kernel))<;>(conv=>whnf))|((intro _;skip)<;>(conv=>whnf))))
    all_goals
     refine st_round (j+1) ⟨hlt,fun i x' y' hi h1 h2=>?_⟩ (by omega) ?_ (MemFits.pre 1 rfl)
     ·by_cases e:i=j
      ·subst e
       rw [hx] at h1
       rw [hy] at h2
       injection h1 with h1
       injection h2 with h2
       rw [← h1,← h2];exact hfr.2 ⟨rfl,hqo⟩
      ·exact hgone i x' y' (by omega) h1 h2
     ·repeat (first|exact FitsSl.nil|refine FitsSl.any ?_|refine FitsSl.cons (Fit1.int (by first | rfl | omega)) ?_|refine FitsSl.cons (Fit1.bool rfl) ?_|refine FitsSl.cons (Fit1.same (by intro h;cases h) (by with_reducible rfl)) ?_)
   ·rw [decide_eq_false hqo] at cS
    rw [hne _ hqo fun h=>(hfr.1 h).2]
    (repeat' (first|(with_reducible first|(refine hK _ _ ?_;clear hK K)|(refine hA ?_;clear hA hB A B)|(refine hK _ ?_;clear hK K))|((with_reducible first|refine z25 ?_|refine z26 ?_);intro K hK;(conv=>whnf))|(with_reducible refine z0 ?_)|((first|((with_reducible refine NIf.yes ?s ?_);case s=>(simp ;done))|((with_reducible refine NIf.no ?s ?_);case s=>(simp ;done))|((with_reducible refine NIf.decY ?s ?_);case s=>omega)|(with_reducible first|refine NN.cast ?_|refine NN.a5 ?_|refine NN.keep ?_)|((with_reducible refine NH.mk ?s ?_);case s=>(and_intros<;>first|with_reducible rfl|((with_reducible refine gOnes ?_);rfl)|((with_reducible refine gLen ?_);rfl)|((with_reducible refine gKept ?_);exact rfl)|omega))|((with_reducible refine NCall.isF 65 ?_);refine NCall.pureE (w1) ?_)|((with_reducible refine NCall.isF 65 ?_);refine NCall.pureE (w2) ?_)|((with_reducible refine NCall.isF 17 ?_);refine NCall.subE [0] (cS) rfl (by decide) rfl rfl ?_)|(with_reducible refine NLd.of (by with_reducible assumption) ?_))<;>(conv=>whnf))|(with_reducible refine st_ordSout ?_)|((with_reducible refine gNOK ?_);(first|(refine st_ordK1 rfl (by kernel_rfl) rfl ?_;intro K hK;(conv=>whnf))|refine st_ordK0 rfl (by kernel_rfl) ?_|refine st_ordKA rfl rfl (by kernel_rfl) (by intro h;cases h) ?_))|((with_reducible refine gNEK ?_);(first|(refine st_eachK ?_ ?_;(intro K hK;(conv=>whnf)))|exact st_eachK0))|((with_reducible refine gX ?_);(first|refine st_orderS [] rfl rfl (by kernel_rfl) _ rfl ?_|(with_reducible first|refine z3 ?_|refine z4 ?_|refine z5 ?_|refine z6 ?_|refine z8 ?_)|((with_reducible refine z29 ?_);intro A B hA hB;(conv=>whnf))))|(with_reducible first|refine z1 ?_|refine z2 ?_|refine z12 ?_|refine z13 ?_|refine z20 ?_)|((with_reducible refine gR ?_);(refine z31 rfl ?_;intro K hK;(conv=>whnf)))|((refine NFlat_iff.2 ⟨⟨?s1,?s2⟩,?_⟩;(case s1=>decide +kernel);(case s2=>decide +kernel))<;>(conv=>whnf))|((intro _;skip)<;>(conv=>whnf))))
    all_goals exact ⟨rfl,MemFits.pre 1 rfl⟩
  ·rw [hne _ hXY fun h=>(hfr.1 h).1]
   by_cases hp:X0=Y0
   ·have hnb:(decide (X1=Y1)&&(decide (X2=Y2)&&(decide (X3=Y3)&&(decide (X4=Y4)&&true))))=false:=by
     refine Bool.eq_false_iff.2 fun h=>hXY ?_
     simp only [Bool.and_eq_true,decide_eq_true_eq,and_true] at h
     obtain ⟨rfl,rfl,rfl,rfl⟩:=h
     rw [hp]
    subst hp
    (repeat' (first|(with_reducible first|(refine hK _ _ ?_;clear hK K)|(refine hA ?_;clear hA hB A B)|(refine hK _ ?_;clear hK K))|((with_reducible first|refine z25 ?_|refine z26 ?_);intro K hK;(conv=>whnf))|(with_reducible refine z0 ?_)|((first|((with_reducible refine NIf.yes ?s ?_);case s=>(rw [hnb];rfl))|((with_reducible refine NIf.yes ?s ?_);case s=>(simp ;done))|((with_reducible refine NIf.no ?s ?_);case s=>(simp ;done))|((with_reducible refine NIf.decY ?s ?_);case s=>omega)|(with_reducible first|refine NN.cast ?_|refine NN.a5 ?_|refine NN.keep ?_)|((with_reducible refine NH.mk ?s ?_);case s=>(and_intros<;>first|with_reducible rfl|((with_reducible refine gOnes ?_);rfl)|((with_reducible refine gLen ?_);rfl)|((with_reducible refine gKept ?_);exact rfl)|omega))|((with_reducible refine NCall.isF 65 ?_);refine NCall.pureE (w1) ?_)|((with_reducible refine NCall.isF 65 ?_);refine NCall.pureE (w2) ?_)|(with_reducible refine NLd.of (by with_reducible assumption) ?_))<;>(conv=>whnf))|(with_reducible refine st_ordSout ?_)|((with_reducible refine gNOK ?_);(first|(refine st_ordK1 rfl (by kernel_rfl) rfl ?_;intro K hK;(conv=>whnf))|refine st_ordK0 rfl (by kernel_rfl) ?_|refine st_ordKA rfl rfl (by kernel_rfl) (by intro h;cases h) ?_))|((with_reducible refine gNEK ?_);(first|(refine st_eachK ?_ ?_;(intro K hK;(conv=>whnf)))|exact st_eachK0))|((with_reducible refine gX ?_);(first|refine st_orderS [] rfl rfl (by kernel_rfl) _ rfl ?_|(with_reducible first|refine z3 ?_|refine z4 ?_|refine z5 ?_|refine z6 ?_|refine z8 ?_)|((with_reducible refine z29 ?_);intro A B hA hB;(conv=>whnf))))|(with_reducible first|refine z1 ?_|refine z2 ?_|refine z12 ?_|refine z13 ?_|refine z20 ?_)|((with_reducible refine gR ?_);(refine z31 rfl ?_;intro K hK;(conv=>whnf)))|((refine NFlat_iff.2 ⟨⟨?s1,?s2⟩,?_⟩;(case s1=>decide +kernel);(case s2=>decide +kernel))<;>(conv=>whnf))|((intro _;skip)<;>(conv=>whnf))))
    all_goals first | (exfalso;omega) | exact ⟨rfl,MemFits.pre 1 rfl⟩
   ·(repeat' (first|(with_reducible first|(refine hK _ _ ?_;clear hK K)|(refine hA ?_;clear hA hB A B)|(refine hK _ ?_;clear hK K))|((with_reducible first|refine z25 ?_|refine z26 ?_);intro K hK;(conv=>whnf))|(with_reducible refine z0 ?_)|((first|with_reducible refine NIf.not_ ?_|((with_reducible refine NIf.decY ?s ?_);case s=>omega)|((with_reducible refine NIf.decN ?s ?_);case s=>assumption)|((with_reducible refine NIf.yes ?s ?_);case s=>rfl)|(with_reducible first|refine NN.cast ?_|refine NN.a5 ?_|refine NN.keep ?_)|((with_reducible refine NH.mk ?s ?_);case s=>(and_intros<;>first|with_reducible rfl|((with_reducible refine gOnes ?_);rfl)|((with_reducible refine gLen ?_);rfl)|((with_reducible refine gKept ?_);exact rfl)|omega))|((with_reducible refine NCall.isF 65 ?_);refine NCall.pureE (w1) ?_)|((with_reducible refine NCall.isF 65 ?_);refine NCall.pureE (w2) ?_)|(with_reducible refine NLd.of (by with_reducible assumption) ?_))<;>(conv=>whnf))|(with_reducible refine st_ordSout ?_)|((with_reducible refine gNOK ?_);(first|(refine st_ordK1 rfl (by kernel_rfl) rfl ?_;intro K hK;(conv=>whnf))|refine st_ordK0 rfl (by kernel_rfl) ?_|refine st_ordKA rfl rfl (by kernel_rfl) (by intro h;cases h) ?_))|((with_reducible refine gNEK ?_);(first|(refine st_eachK ?_ ?_;(intro K hK;(conv=>whnf)))|exact st_eachK0))|((with_reducible refine gX ?_);(first|refine st_orderS [] rfl rfl (by kernel_rfl) _ rfl ?_|(with_reducible first|refine z3 ?_|refine z4 ?_|refine z5 ?_|refine z6 ?_|refine z8 ?_)|((with_reducible refine z29 ?_);intro A B hA hB;(conv=>whnf))))|(with_reducible first|refine z1 ?_|refine z2 ?_|refine z12 ?_|refine z13 ?_|refine z20 ?_)|((with_reducible refine gR ?_);(refine z31 rfl ?_;intro K hK;(conv=>whnf)))|((intro _;skip)<;>(conv=>whnf))))
    all_goals first | (exfalso;omega) | exact ⟨rfl,MemFits.pre 1 rfl⟩
 ·have hy:Tr.alike (Tr.fK k) a b=true:=hs.2 ⟨hl,fun i x y h1 h2=>hgone i x y (by have:=(List.getElem?_eq_some_iff.1 h1).1;omega) h1 h2⟩
  rw [hy]
  (repeat' (first|(with_reducible first|(refine hK _ _ ?_;clear hK K)|(refine hB ?_;clear hA hB A B)|(refine hK _ ?_;clear hK K))|((with_reducible refine z25 ?_);intro K hK;(conv=>whnf))|(with_reducible refine z0 ?_)|((first|((with_reducible refine NIf.decN ?s ?_);case s=>omega)|((with_reducible refine NH.mk ?s ?_);case s=>(and_intros<;>omega)))<;>(conv=>whnf))|(with_reducible first|refine z3 ?_|refine z4 ?_|refine z7 ?_|refine z8 ?_)|((with_reducible refine z29 ?_);intro A B hA hB;(conv=>whnf))|(with_reducible first|refine z1 ?_|refine z2 ?_|refine z10 ?_|refine z11 ?_|refine z19 ?_)|((with_reducible refine gR ?_);(refine z31 rfl ?_;intro K hK;(conv=>whnf)))))
  all_goals exact ⟨rfl,MemFits.pre 1 rfl⟩
set_option maxHeartbeats 4000000
namespace Tr
structure Mk (F:Heap) (a:Addr) (y:Po.T) (sw:Int) (pu u:Value):Prop where
 p:Po.At F y pu u
 c:CellsF F a 0 (denL (Po.cs y pu u++[.int .i64 sw]))
 v:∀ f:Int,ok f→∃ A cap,Srt.Row F (.slice A (Po.values f y).length cap) (Po.values f y)∧F.c (a.add (9+f.toNat)) (.slice A (Po.values f y).length cap)
theorem Mk.mono {F G:Heap} (h:F.le G) {a:Addr} {y:Po.T} {sw:Int} {pu u:Value} (hm:Mk F a y sw pu u):Mk G a y sw pu u :=
 ⟨Po.At.mono h hm.p,hm.c.mono h,fun f hf=>by
  obtain ⟨A,cap,h1,h2⟩:=hm.v f hf
  exact ⟨A,cap,RowF.mono h (fun _ _ h=>h) h1,h.c _ _ h2⟩⟩
def part (sw:Int) (y:Po.T) (f:Int) (rest:List Int) (s:Po.S) (i:Nat):List C:=((Po.values f y).take i).flatMap fun v=>some_ f (cases sw y rest s) (cases sw y rest (withK f v s))
theorem part_next (sw:Int) (y:Po.T) (f:Int) (rest:List Int) (s:Po.S) {i:Nat} (h:i<(Po.values f y).length):part sw y f rest s (i+1)=part sw y f rest s i++some_ f (cases sw y rest s) (cases sw y rest (withK f (Po.values f y)[i] s)):=by
 unfold part
 rw [List.take_add_one,List.getElem?_eq_getElem h,List.flatMap_append]
 simp
theorem part_len (sw:Int) (y:Po.T) (f:Int) (rest:List Int) (s:Po.S) (i:Nat) (hi:i≤(Po.values f y).length):(part sw y f rest s i).length≤(Po.values f y).length*cnt y rest:=by
 have h1:=flat_len (fun v=>some_ f (cases sw y rest s) (cases sw y rest (withK f v s))) (cnt y rest) ((Po.values f y).take i) fun v _=>Nat.le_trans (some_len _ _ _) (cases_len sw y rest _)
 have h2:((Po.values f y).take i).length*cnt y rest≤(Po.values f y).length*cnt y rest:=Nat.mul_le_mul_right _ (List.length_take_le' ..)
 unfold part
 omega
theorem cases_part (sw:Int) (y:Po.T) (f:Int) (rest:List Int) (s:Po.S):cases sw y (f::rest) s=part sw y f rest s (Po.values f y).length++cases sw y rest s:=by rw [cases,part,List.take_length]
end Tr
theorem Tr.vget {F:Heap} {v:Value} {l:List Int} (h:Srt.Row F v l) {i:Nat} {x:Int} (hx:l[i]?=some x):F.c ((addrOf v).add i) (.int .i64 x):=by
 obtain ⟨us,rfl,_,h2⟩:=h.at_ i x hx
 rw [Nat.mul_one] at h2
 exact h2.1
abbrev Tr.LaysR (F:Heap) (l:List Tr.C) (r:AV) (m:List Blk):Prop:=∃ F' v,∃ qs:List Tr.L,F.le F'∧Tr.Row F' v l∧SlOk v l.length∧qs.map (·.x)=l∧(∀ p∈qs,Po.SRow F' p.v p.x.out)∧(Tr.psC qs).length=l.length*6∧CellsF F' (addrOf v) 0 (denL (Tr.psC qs))∧r = .hs v l.length∧m=[hpB F']
theorem Tr.Lays.reads {F:Heap} {l:List Tr.C} {r:AV} {m:List Blk} (h:Tr.Lays F l r m):Tr.LaysR F l r m:=by
 obtain ⟨F',v,h1,h2,h3,h4⟩:=h
 obtain ⟨qs,q1,q2,q3,q4⟩:=h2.reads
 exact ⟨F',v,qs,h1,h2,h2.ok,q1,q2,q3,q4,h3,h4⟩
theorem cases31_0 (F:Heap) (a:Addr) (y:Po.T) (sw:Int) (pu u:Value) (s:Po.S) (fv:Value) (hs:Po.tot y≤4611686018427387904) (hf:Po.fits y=true) (hl:∀ s,(Po.runs sw y s).length≤1000) (hok:SlOk fv 0) (hm:Tr.Mk F a y sw pu u) :
  NCall Tryz.prog 27 [.hp a 0,.hs fv 0,.agg [.int .i64 s.port,.int .i64 s.p0,.int .i64 s.p1,.int .i64 s.p2,.int .i64 s.p3,.raw (.slice none 0 0)]] [hpB F] fun r m=>Tr.Lays F [⟨s,Tr.outs sw y s⟩] r m:=by
 refine Tr.rows_know (t:=53) ?_
 have cl:=last31_c F sw y pu u a s hs hf (hl s) hm.p hm.c
 generalize Tr.outs sw y s=O at *
 clear hm hl hf hs
 obtain ⟨s0,s1,s2,s3,s4⟩:=s
 simp only [Tr.Lay1,Tr.cs] at *
 refine ncall_of Tryz.func27 rfl (by decide) ?_
 (repeat' (first|(with_reducible first|(refine hK _ _ ?_;clear hK K)|(refine hA ?_;clear hA hB A B)|(refine hK _ ?_;clear hK K))|((with_reducible refine z25 ?_);intro K hK;(conv=>whnf))|(with_reducible refine z0 ?_)|((first|((with_reducible refine NIf.decY ?s ?_);case s=>omega)|((with_reducible refine NH.mk ?s ?_);case s=>(and_intros<;>first|with_reducible rfl|((with_reducible refine gLen ?_);rfl)|omega))|((with_reducible refine NCall.isF 58 ?_);refine NCall.subw [0] _ _ (cl) rfl (by decide) rfl ?_;rintro _ _ ⟨G,w,hle,hw,rfl,rfl⟩;refine ⟨Nat.le_of_ble_eq_true rfl,_,rfl,?_⟩))<;>(conv=>whnf))|(with_reducible first|refine z3 ?_|refine z4 ?_|refine z8 ?_)|((with_reducible refine z29 ?_);intro A B hA hB;(conv=>whnf))|(with_reducible first|refine z1 ?_|refine z2 ?_|refine z12 ?_)|((with_reducible refine gR ?_);(refine z31 rfl ?_;intro K hK;(conv=>whnf)))|((with_reducible refine gF ?_);(refine z33 rfl ?_;intro K hK;(conv=>whnf)))|((intro _;skip)<;>(conv=>whnf))))
 all_goals
  rename_i v9
  exact ⟨G,.slice (some ⟨v9,0,none⟩) 1 1,[⟨⟨⟨s0,s1,s2,s3,s4⟩,O⟩,w⟩],hle,rfl,fun p hp=>by rw [List.mem_singleton.1 hp];exact hw,rfl,MemFits.pick [0,2] (by decide) rfl⟩
theorem cases31_1 (F:Heap) (a:Addr) (y:Po.T) (sw:Int) (pu u:Value) (s:Po.S) (f:Int) (rest:List Int) (fv:Value) (hfo:Tr.ok f) (hc:Tr.cnt y (f::rest)≤1000000) (hl:∀ s,(Po.runs sw y s).length≤1000) (hfv:Po.IRow F fv (f::rest)) (hm:Tr.Mk F a y sw pu u)
  (ih:∀ (G:Heap) (s:Po.S) (gv:Value),F.le G→Po.IRow G gv rest→NCall Tryz.prog 27 [.hp a 0,.hs gv rest.length,.agg [.int .i64 s.port,.int .i64 s.p0,.int .i64 s.p1,.int .i64 s.p2,.int .i64 s.p3,.raw (.slice none 0 0)]] [hpB G] fun r m=>Tr.Lays G (Tr.cases sw y rest s) r m) :
  NCall Tryz.prog 27 [.hp a 0,.hs fv (f::rest).length,.agg [.int .i64 s.port,.int .i64 s.p0,.int .i64 s.p1,.int .i64 s.p2,.int .i64 s.p3,.raw (.slice none 0 0)]] [hpB F] fun r m=>Tr.Lays F (Tr.cases sw y (f::rest) s) r m:=by
 refine Tr.rows_know (t:=53) ?_
 have hcut:Po.IRow F (cutSl fv 1 1 (rest.length+1)) rest:=by
  have h:=hfv.cut (lo:=1) (hi:=rest.length+1) (by omega) (by simp)
  have e:((f::rest).drop 1).take (rest.length+1 - 1)=rest:=by simp
  rw [e] at h
  exact h
 have hcr:Tr.cnt y rest≤1000000:=by
  rw [Tr.cnt,Nat.succ_mul] at hc
  omega
 have hcl:=fun b=>Tr.cases_len sw y rest b
 have c0:=hfv.at1 (i:=0) rfl
 have hok:SlOk fv (rest.length+1):=hfv.ok
 rw [show (f::rest).length=rest.length+1 from rfl]
 obtain ⟨A,cap,hV,cV⟩:=hm.v f hfo
 have hVo:=hV.ok
 have ca:=fun G v w b (hv:Tr.Row G v (Tr.cases sw y rest b)) (hw:Tr.Row G w (Tr.cases sw y rest s))=>alike31_c G f hfo v w _ _ hv hw (by have:=hcl b;omega) (by have:=hcl s;omega) (Tr.cases_out_len sw y 1000 hl rest b) (Tr.cases_out_len sw y 1000 hl rest s)
 have c1:=(ih F s _ F.le_refl hcut).mono (K':=fun r m=>∃ G w,F.le G∧Tr.Row G w (Tr.cases sw y rest s)∧SlOk w (Tr.cases sw y rest s).length∧G.c (a.add (9+f.toNat)) (.slice A (Po.values f y).length cap)∧r = .hs w (Tr.cases sw y rest s).length∧m=[hpB G]) fun r m ⟨G,w,h1,h2,h3,h4⟩=>⟨G,w,h1,h2,h2.ok,h1.c _ _ cV,h3,h4⟩
 have hpl:=Tr.part_len sw y f rest s
 have hpn:=fun i h=>Tr.part_next sw y f rest s (i:=i) h
 have hp0:Tr.part sw y f rest s 0=[]:=rfl
 have hend:Tr.cases sw y (f::rest) s=Tr.part sw y f rest s (Po.values f y).length++Tr.cases sw y rest s:=Tr.cases_part sw y f rest s
 have hcm:(Po.values f y).length*Tr.cnt y rest≤1000000:=by
  rw [Tr.cnt,Nat.succ_mul] at hc
  omega
 have hvl:(Po.values f y).length≤1000000:=by
  have h1:=Nat.mul_le_mul_left (Po.values f y).length (Tr.cnt_pos y rest)
  omega
 rw [hend]
 clear hend hm hl hc cV
 generalize Tr.part sw y f rest s=part at *
 generalize hvs:Po.values f y=vs at *
 generalize hot:Tr.cases sw y rest s=other at *
 have hol:other.length≤1000000:=by rw [← hot];have:=hcl s;omega
 clear hfv hvs
 refine ncall_of Tryz.func27 rfl (by decide) ?_
 (repeat' (first|(with_reducible first|(refine hK _ _ ?_;clear hK K)|(refine hB ?_;clear hA hB A B)|(refine hK _ ?_;clear hK K))|((with_reducible refine z25 ?_);intro K hK;(conv=>whnf))|(with_reducible refine z0 ?_)|((first|((with_reducible refine NIf.decN ?s ?_);case s=>omega)|(with_reducible first|refine NN.lit ?_|refine NN.a2 ?_|refine NN.a3 ?_|refine NN.a5 ?_|refine NN.keep ?_)|((with_reducible refine NH.mk ?s ?_);case s=>(and_intros<;>first|with_reducible rfl|omega))|((with_reducible refine NCall.isF 27 ?_);refine NCall.subw [0] _ _ (c1) rfl (by decide) rfl ?_;rintro _ _ ⟨G1,w,hle,hw,hwo,hcv,rfl,rfl⟩;refine ⟨Nat.le_of_ble_eq_true rfl,_,rfl,?_⟩)|(with_reducible refine NLd.of (by with_reducible assumption) ?_))<;>(conv=>whnf))|(with_reducible refine st_ordSout ?_)|((with_reducible refine gNOK ?_);(first|(refine st_ordK1 rfl (by kernel_rfl) rfl ?_;intro K hK;(conv=>whnf))|refine st_ordK0 rfl (by kernel_rfl) ?_))|((with_reducible refine gX ?_);(first|refine st_orderS [] rfl rfl (by kernel_rfl) _ rfl ?_|(with_reducible first|refine z3 ?_|refine z4 ?_|refine z5 ?_|refine z6 ?_)|((with_reducible refine z29 ?_);intro A B hA hB;(conv=>whnf))))|(with_reducible first|refine z1 ?_|refine z2 ?_)|((with_reducible refine gF ?_);(refine z33 rfl ?_;intro K hK;(conv=>whnf)))|((intro _;skip)<;>(conv=>whnf))))
 refine st_auto (α:=Heap × Value × List Tr.L × Nat) (fun (G,u,ps,i)=>G1.le G∧i≤vs.length∧ps.map (·.x)=part i∧∀ p∈ps,Po.SRow G p.v p.x.out) (fun (G,u,ps,i)=>[.keep,.keep,.keep,.keep,.keep,.keep,.keep,.keep,.keep,.keep,.set (.sl 2 u ps.length),.keep,.drop,.drop,.keep,.keep,.keep,.keep,.keep,.keep,.keep,.keep,.keep,.keep,.keep,.keep,.keep,.keep,.keep,.keep,.keep,.keep,.keep,.keep,.keep,.keep,.keep,.set (.int .i64 i),.drop,.drop,.drop,.drop,.drop,.drop,.drop,.drop,.drop,.drop,.drop,.drop,.drop,.drop,.drop,.drop,.drop,.drop,.drop,.keep,.keep,.keep])
  (fun (G,u,ps,i)=>[.set (hpB G),.keep,.set ⟨addrOf u,Tr.psC ps,.row u 53 6 ps.length⟩]) (fun (G,u,ps,i)=>vs.length - i) (G1,.slice none 0 0,[],0) ⟨G1.le_refl,Nat.zero_le _,hp0.symm,fun p hp=>by simp at hp⟩ ?_ ?_ ?_
 ·repeat (first|exact FitsSl.nil|refine FitsSl.any ?_|refine FitsSl.cons (Fit1.int (by first | rfl | omega)) ?_|refine FitsSl.cons (Fit1.bool rfl) ?_|refine FitsSl.cons (Fit1.same (by intro h;cases h) (by with_reducible rfl)) ?_|refine FitsSl.cons Fit1.nil_sl ?_)
 ·exact (MemFits.nilRow _ 53 6).trans (MemFits.congr rfl)
 (intro ⟨G,u,ps,i⟩ ⟨hle2,hi,hmap,hall⟩;intro K hK;(conv=>whnf);refine hK _ _ ?_;clear hK K)
 dsimp only
 have hpsl:ps.length=(part i).length:=by rw [← hmap,List.length_map]
 have hpb:=hpl i hi
 have hwG:=Tr.Row.mono hle2 hw
 by_cases hlt:i<vs.length
 ·have hx:vs[i]?=some vs[i]:=List.getElem?_eq_getElem hlt
  have v0:=(hle.trans hle2).c _ _ (Tr.vget hV hx)
  have hnx:=hpn i hlt
  clear hpn hpl c1
  generalize vs[i]=v at *
  have cw:=with31_c s f v hfo
  have ci:=(ih G (Tr.withK f v s) _ (hle.trans hle2) (RowF.mono (hle.trans hle2) (fun _ _ h=>h) hcut)).mono (K':=fun r m=>Tr.LaysR G (Tr.cases sw y rest (Tr.withK f v s)) r m) fun r m h=>Tr.Lays.reads h
  have ca:=fun G' v' (h1:Tr.Row G' v' (Tr.cases sw y rest (Tr.withK f v s))) (h2:G.le G')=>ca G' v' w _ h1 (Tr.Row.mono h2 hwG)
  have hll:=hcl (Tr.withK f v s)
  clear ih hcl
  generalize hs2:Tr.withK f v s=s2 at *
  generalize Tr.cases sw y rest s2=l at *
  by_cases hal:Tr.alike f l other=true
  ·rw [hal] at ca
   rw [Tr.some_,if_pos hal,List.append_nil] at hnx
   (repeat' (first|(with_reducible first|(refine hK _ _ ?_;clear hK K)|(refine hA ?_;clear hA hB A B)|(refine hB ?_;clear hA hB A B))|((with_reducible refine z25 ?_);intro K hK;(conv=>whnf))|(with_reducible refine z0 ?_)|((first|((with_reducible refine NV.i64 ?s ?_);case s=>omega)|with_reducible refine NIf.not_ ?_|((with_reducible refine NIf.decY ?s ?_);case s=>omega)|((with_reducible refine NIf.yes ?s ?_);case s=>rfl)|(with_reducible first|refine NN.cast ?_|refine NN.a2 ?_)|((with_reducible refine NH.mk ?s ?_);case s=>(and_intros<;>first|with_reducible rfl|omega))|((with_reducible refine NCall.isF 59 ?_);refine NCall.pureE (cw) ?_)|((with_reducible refine NCall.isF 27 ?_);refine NCall.subw [0] _ _ (ci) rfl (by decide) rfl ?_;rintro _ _ ⟨G2,v2,qs,hle3,hv2,hv2o,hq1,hq2,hq3,hq4,rfl,rfl⟩;refine ⟨Nat.le_of_ble_eq_true rfl,_,rfl,?_⟩)|((with_reducible refine NCall.isF 60 ?_);refine NCall.subE [0] (ca G2 v2 hv2 hle3) rfl (by decide) rfl rfl ?_)|(with_reducible refine NLd.of (by with_reducible assumption) ?_))<;>(conv=>whnf))|(with_reducible first|refine z3 ?_|refine z4 ?_|refine z5 ?_|refine z6 ?_)|((with_reducible refine z29 ?_);intro A B hA hB;(conv=>whnf))|(with_reducible first|refine z1 ?_|refine z2 ?_|refine z9 ?_)))
   all_goals
    refine st_round (G2,u,ps,i+1) ⟨hle2.trans hle3,hlt,hmap.trans hnx.symm,fun p hp=>Tr.srow_mono hle3 (hall p hp)⟩ (by show vs.length - (i+1)<vs.length - i;omega) ?_ (MemFits.eq rfl)
    repeat (first|exact FitsSl.nil|refine FitsSl.any ?_|refine FitsSl.cons (Fit1.int (by first | rfl | omega)) ?_|refine FitsSl.cons (Fit1.bool rfl) ?_|refine FitsSl.cons (Fit1.same (by intro h;cases h) (by with_reducible rfl)) ?_)
  ·have hal:Tr.alike f l other=false:=by simpa using hal
   rw [hal] at ca
   rw [Tr.some_,hal,if_neg (by decide)] at hnx
   have hpc:=Tr.psC_len ps
   have hapd:=fun qs=>Tr.psC_append ps qs
   generalize hpsc:Tr.psC ps=pc at *
   (repeat' (first|(with_reducible first|(refine hK _ _ ?_;clear hK K)|(refine hA ?_;clear hA hB A B))|((with_reducible refine gO ?_);(first|((with_reducible refine z25 ?_);intro K hK;(conv=>whnf))|(with_reducible refine z0 ?_)))|((first|((with_reducible refine gV ?_);(((with_reducible refine NV.i64 ?s ?_);case s=>omega)))|((with_reducible refine gI ?_);(first|with_reducible refine NIf.not_ ?_|((with_reducible refine NIf.decY ?s ?_);case s=>omega)|((with_reducible refine NIf.no ?s ?_);case s=>rfl)))|((with_reducible refine gN ?_);(with_reducible first|refine NN.cast ?_|refine NN.a2 ?_))|((with_reducible refine gH ?_);((((with_reducible refine NH.mk ?side ?_);case side=>(and_intros<;>first | with_reducible rfl | omega | ((first | exact Tr.ones_psC _ | rfl | assumption)))))))|((with_reducible refine gC ?_);(first|((with_reducible refine NCall.isF 59 ?_);refine NCall.pureE (cw) ?_)|((with_reducible refine NCall.isF 27 ?_);refine NCall.subw [0] _ _ (ci) rfl (by decide) rfl ?_;rintro _ _ ⟨G2,v2,qs,hle3,hv2,hv2o,hq1,hq2,hq3,hq4,rfl,rfl⟩;refine ⟨Nat.le_of_ble_eq_true rfl,_,rfl,?_⟩)|((with_reducible refine NCall.isF 60 ?_);refine NCall.subE [0] (ca G2 v2 hv2 hle3) rfl (by decide) rfl rfl ?_)))|(with_reducible refine NLd.of (by with_reducible assumption) ?_))<;>(conv=>whnf))|(refine NRd.of (Tr.psC qs) hq3 hq4 ?_;conv=>whnf)|((with_reducible refine gX ?_);(first|(with_reducible first|refine z3 ?_|refine z4 ?_|refine z5 ?_|refine z6 ?_)|((with_reducible refine z29 ?_);intro A B hA hB;(conv=>whnf))))|(with_reducible first|refine z1 ?_|refine z2 ?_|refine z9 ?_)|((intro _;skip)<;>(conv=>whnf))))
   all_goals
    rename_i v9
    have hql:qs.length=l.length:=by rw [← hq1,List.length_map]
    refine st_round (G2,v9,ps++qs,i+1) ⟨hle2.trans hle3,hlt,by rw [List.map_append,hmap,hq1];exact hnx.symm,fun p hp=>?_⟩ (by show vs.length - (i+1)<vs.length - i;omega) ?_ (MemFits.pre 3 ?_)
    ·rcases List.mem_append.1 hp with hp | hp
     ·exact Tr.srow_mono hle3 (hall p hp)
     ·exact hq2 p hp
    ·simp only [List.length_append,hql]
     repeat (first|exact FitsSl.nil|refine FitsSl.any ?_|refine FitsSl.cons (Fit1.int (by first | rfl | omega)) ?_|refine FitsSl.cons (Fit1.bool rfl) ?_|refine FitsSl.cons (Fit1.same (by intro h;cases h) (by with_reducible rfl)) ?_)
    ·simp only [autoM,List.length_append,hql,hapd]
     rfl
 ·obtain rfl:i=vs.length:=by omega
  obtain ⟨qs,hq1,hq2,hq3,hq4⟩:=hwG.reads
  have hql:qs.length=other.length:=by rw [← hq1,List.length_map]
  have hpc:=Tr.psC_len ps
  have hapd:=Tr.psC_append ps qs
  generalize hpsc:Tr.psC ps=pc at *
  clear ih ca c1 hcl
  (repeat' (first|(with_reducible first|(refine hK _ _ ?_;clear hK K)|(refine hB ?_;clear hA hB A B)|(refine hK _ ?_;clear hK K))|((with_reducible refine gO ?_);(first|((with_reducible refine z25 ?_);intro K hK;(conv=>whnf))|(with_reducible refine z0 ?_)))|((first|((with_reducible refine gI ?_);(((with_reducible refine NIf.decN ?s ?_);case s=>omega)))|((with_reducible refine gH ?_);((((with_reducible refine NH.mk ?side ?_);case side=>(and_intros<;>first | with_reducible rfl | omega | ((first | exact Tr.ones_psC _ | rfl | assumption))))))))<;>(conv=>whnf))|(refine NRd.of (Tr.psC qs) hq3 hq4 ?_;conv=>whnf)|((with_reducible refine gX ?_);(first|(with_reducible first|refine z3 ?_|refine z4 ?_|refine z7 ?_|refine z8 ?_)|((with_reducible refine z29 ?_);intro A B hA hB;(conv=>whnf))))|(with_reducible first|refine z1 ?_|refine z2 ?_|refine z10 ?_|refine z11 ?_|refine z19 ?_)|((with_reducible refine gR ?_);((refine z31 rfl ?_);intro K hK;(conv=>whnf)))|((intro _;skip)<;>(conv=>whnf))))
  all_goals
   rename_i v9
   refine ⟨G,v9,ps++qs,hle.trans hle2,by rw [List.map_append,hmap,hq1],fun p hp=>?_,rfl,?_⟩
   ·rcases List.mem_append.1 hp with hp | hp
    ·exact hall p hp
    ·exact hq2 p hp
   ·rw [hapd,List.length_append,hql]
    exact MemFits.pick [0,2] (by decide) rfl
theorem cases31_c (y:Po.T) (sw:Int) (a:Addr) (pu u:Value) (hs:Po.tot y≤4611686018427387904) (hf:Po.fits y=true) (hl:∀ s,(Po.runs sw y s).length≤1000):∀ (fs:List Int) (F:Heap) (s:Po.S) (fv:Value),(∀ f∈fs,Tr.ok f)→Tr.cnt y fs≤1000000→Po.IRow F fv fs→Tr.Mk F a y sw pu u →
  NCall Tryz.prog 27 [.hp a 0,.hs fv fs.length,.agg [.int .i64 s.port,.int .i64 s.p0,.int .i64 s.p1,.int .i64 s.p2,.int .i64 s.p3,.raw (.slice none 0 0)]] [hpB F] fun r m=>Tr.Lays F (Tr.cases sw y fs s) r m
 | [],F,s,fv,_,_,hfv,hm=>by
  rw [Tr.cases]
  exact cases31_0 F a y sw pu u s fv hs hf hl hfv.ok hm
 | f::rest,F,s,fv,hok,hc,hfv,hm=>cases31_1 F a y sw pu u s f rest fv (hok f (by simp)) hc hl hfv hm fun G s gv hG hgv =>
  cases31_c y sw a pu u hs hf hl rest G s gv (fun g hg=>hok g (by simp [hg])) (by rw [Tr.cnt,Nat.succ_mul] at hc;omega) hgv (hm.mono hG)
end Go.Proofs.YtaolcaggdddkpaaGreat
