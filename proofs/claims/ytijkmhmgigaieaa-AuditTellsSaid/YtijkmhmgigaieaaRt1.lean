import Derived.Test.YtijkmhmgigaieaaRt1p
import Derived.Test.YtijkmhmgigaieaaAu1p
import Derived.Test.YtijkmhmgigaieaaTc2
import Derived.Test.YtijkmhmgigaieaaTp2
import Derived.Test.YtijkmhmgigaieaaSxCut
namespace Go.Proofs.Ytijkmhmgigaieaa
open Go.Sx
set_option maxRecDepth 20000
set_option linter.unusedSimpArgs false
set_option linter.unusedVariables false
set_option maxHeartbeats 4000000
set_option linter.unusedVariables false
namespace Rt
def R (F:Heap) (row:List Int) (us:List Value):Prop:=∃ A cap,Tc.IRow F (.slice A row.length cap) row∧us=[.slice A row.length cap]
abbrev Row (F:Heap) (v:Value) (r:List (List Int)):Prop:=RowF F 1 (R F) v r
theorem R.mono {F G:Heap} (h:F.le G) {row:List Int} {us:List Value} (hc:R F row us):R G row us:=by
  obtain ⟨A,cap,h1,h2⟩:=hc
  exact ⟨A,cap,Tc.irow_mono h h1,h2⟩
theorem Row.mono {F G:Heap} (h:F.le G) {v:Value} {l:List (List Int)} (hv:Row F v l):Row G v l:=RowF.mono h (fun _ _ hp=>R.mono h hp) hv
theorem Row.get {F:Heap} {v:Value} {l:List (List Int)} (h:Row F v l) {i:Nat} {x:List Int} (hx:l[i]?=some x):∃ A cap,Tc.IRow F (.slice A x.length cap) x∧F.c ((addrOf v).add i) (.slice A x.length cap):=by
  obtain ⟨us,h1,_,h2⟩:=h.at_ i x hx
  obtain ⟨A,cap,h3,rfl⟩:=h1
  simp only [CellsF,Nat.mul_one] at h2
  exact ⟨A,cap,h3,h2.1⟩
def few (r:List (List Int)):Prop:=r.length≤1000∧∀ row∈r,row.length≤1000
def prtV:Option Int→AV
  | none=>.tup [.int .i64 0,.bool false]
  | some p=>.tup [.int .i64 p,.bool true]
def peerV (i:Nat):Option (Int × Int)→AV
  | none=>.tup [.int .i64 0,.int .i64 0,.int .i64 0,.bool false]
  | some q=>.tup [.int .i64 q.1,.int .i64 q.2,.int .i64 i,.bool true]
end Rt
theorem port21_c (F:Heap) (v:Value) (r:List (List Int)) (hv:Rt.Row F v r) (hf:Rt.few r) (sw h:Int):NCall Try.prog 53 [.hs v r.length,.int .i64 sw,.int .i64 h] [hpB F] fun u m=>u=Rt.prtV (Rt.prt r sw h)∧m=[hpB F]:=by
  have hok:=hv.ok
  have hf1:=hf.1
  refine ncall_of Try.func53 rfl (by decide) ?_
  by_cases h1:0≤sw∧sw<r.length
  · obtain ⟨s,rfl⟩:=Int.eq_ofNat_of_zero_le h1.1
    have hx:r[s]?=some (r[s]'(by omega)):=List.getElem?_eq_getElem (by omega)
    obtain ⟨A,cap,hr,c0⟩:=hv.get hx
    have hf2:=hf.2 _ (List.mem_of_getElem? hx)
    generalize r[s]'(by omega)=row at *
    have hrk:=hr.ok
    by_cases h2:0≤h∧h<row.length
    · obtain ⟨k,rfl⟩:=Int.eq_ofNat_of_zero_le h2.1
      have hy:row[k]?=some (row[k]'(by omega)):=List.getElem?_eq_getElem (by omega)
      have d0:=hr.get hy
      have hp:Rt.prt r s k=some (row[k]'(by omega)):=by unfold Rt.prt;rw [if_neg (by omega),Int.toNat_natCast,Int.toNat_natCast,hx];exact hy
      rw [hp]
      generalize row[k]'(by omega)=p at *
      (repeat' (first|(with_reducible first|(refine hK _ _ ?_;clear hK K)|(refine hB ?_;clear hA hB A B)|(refine hK _ ?_;clear hK K))|((with_reducible first|refine z25 ?_|refine z26 ?_);intro K hK;(conv=>whnf))|(with_reducible refine z0 ?_)|((first|((with_reducible refine NIf.decN ?s ?_);case s=>omega)|(with_reducible first|refine NN.cast ?_|refine NN.a2 ?_)|((with_reducible refine NH.mk ?s ?_);case s=>(and_intros<;>omega))|(with_reducible refine NLd.of (by with_reducible assumption) ?_))<;>(conv=>whnf))|(with_reducible first|refine z3 ?_|refine z4 ?_|refine z6 ?_|refine z8 ?_)|((with_reducible refine z29 ?_);intro A B hA hB;(conv=>whnf))|(with_reducible first|refine z1 ?_|refine z2 ?_)|((with_reducible refine gR ?_);(refine z31 rfl ?_;intro K hK;(conv=>whnf)))|((with_reducible refine gF ?_);(refine z33 rfl ?_;intro K hK;(conv=>whnf)))))
      all_goals first | (exfalso;omega) | exact ⟨rfl,rfl⟩
    · have hp:Rt.prt r s h=none:=by
        unfold Rt.prt
        split
        · rfl
        · rw [Int.toNat_natCast,hx]
          exact List.getElem?_eq_none (by omega)
      rw [hp]
      (repeat' (first|(with_reducible first|(refine hK _ _ ?_;clear hK K)|(refine hA ?_;clear hA hB A B)|(refine hK _ ?_;clear hK K))|((with_reducible first|refine z25 ?_|refine z26 ?_);intro K hK;(conv=>whnf))|(with_reducible refine z0 ?_)|((first|((with_reducible refine NIf.decY ?s ?_);case s=>first|assumption|omega)|((with_reducible refine NIf.decN ?s ?_);case s=>first|assumption|omega)|((with_reducible refine NIf.yes ?s ?_);case s=>rfl)|(with_reducible first|refine NIf.dec (fun _=>?_) (fun _=>?_)|refine NN.cast ?_|refine NN.a2 ?_)|((with_reducible refine NH.mk ?s ?_);case s=>(and_intros<;>omega))|(with_reducible refine NLd.of (by with_reducible assumption) ?_))<;>(conv=>whnf))|(with_reducible first|refine z3 ?_|refine z4 ?_|refine z8 ?_)|((with_reducible refine z29 ?_);intro A B hA hB;(conv=>whnf))|(with_reducible first|refine z1 ?_|refine z2 ?_|refine z12 ?_)|((with_reducible refine gR ?_);(refine z31 rfl ?_;intro K hK;(conv=>whnf)))|((with_reducible refine gF ?_);(refine z33 rfl ?_;intro K hK;(conv=>whnf)))))
      all_goals first | (exfalso;omega) | exact ⟨rfl,rfl⟩
  · have hp:Rt.prt r sw h=none:=by
      unfold Rt.prt
      split
      · rfl
      · rw [List.getElem?_eq_none (by omega)]
    rw [hp]
    (repeat' (first|(with_reducible first|(refine hK _ _ ?_;clear hK K)|(refine hA ?_;clear hA hB A B)|(refine hK _ ?_;clear hK K))|((with_reducible first|refine z25 ?_|refine z26 ?_);intro K hK;(conv=>whnf))|(with_reducible refine z0 ?_)|((first|((with_reducible refine NIf.decY ?s ?_);case s=>first|assumption|omega)|((with_reducible refine NIf.decN ?s ?_);case s=>assumption)|((with_reducible refine NIf.yes ?s ?_);case s=>rfl)|(with_reducible refine NIf.dec (fun _=>?_) (fun _=>?_))|((with_reducible refine NH.mk ?s ?_);case s=>(and_intros<;>omega)))<;>(conv=>whnf))|(with_reducible first|refine z3 ?_|refine z4 ?_|refine z8 ?_)|((with_reducible refine z29 ?_);intro A B hA hB;(conv=>whnf))|(with_reducible first|refine z1 ?_|refine z2 ?_|refine z12 ?_)|((with_reducible refine gR ?_);(refine z31 rfl ?_;intro K hK;(conv=>whnf)))|((with_reducible refine gF ?_);(refine z33 rfl ?_;intro K hK;(conv=>whnf)))))
    all_goals first | (exfalso;omega) | exact ⟨rfl,rfl⟩
theorem peer17_c (F:Heap) (t:Tp.T) (lv hv:Value) (ht:Tp.At F t lv hv) (hl:t.ls.length≤1000) (sw p:Int):NCall Try.prog 64 [.agg (Tp.cs t lv hv),.int .i64 sw,.int .i64 p] [hpB F] fun u m=>(∃ i:Nat,u=Rt.peerV i (Rt.peer t sw p))∧m=[hpB F]:=by
  refine NCall.fits (K:=fun u m=>(∃ i:Nat,u=Rt.peerV i (Rt.peer t sw p))∧MemFits m [hpB F]) ?_ fun r m' h=>⟨r,_,rfl,h.2,h.1,rfl⟩
  have hlo:=ht.l.ok
  have hho:=ht.h.ok
  have hg:=fun i x (hx:t.ls[i]?=some x)=>ht.l.get hx
  unfold Rt.peer
  obtain ⟨n,ls,hs⟩:=t
  unfold Tp.cs
  dsimp only at *
  refine ncall_of Try.func64 rfl (by decide) ?_
  (repeat' (first|(with_reducible first|(refine hK _ _ ?_;clear hK K)|(refine hK _ ?_;clear hK K))|((with_reducible refine z25 ?_);intro K hK;(conv=>whnf))|(with_reducible refine z0 ?_)|((first|(with_reducible refine NN.a5 ?_)|((with_reducible refine NH.mk ?s ?_);case s=>(and_intros<;>first|with_reducible rfl|((with_reducible refine gOnes ?_);rfl)|((with_reducible refine gLen ?_);rfl)|omega)))<;>(conv=>whnf))|(with_reducible first|refine z3 ?_|refine z4 ?_|refine z5 ?_|refine z1 ?_|refine z2 ?_)|((with_reducible refine gF ?_);(refine z33 rfl ?_;intro K hK;(conv=>whnf)))|((intro _;skip)<;>(conv=>whnf))))
  refine st_auto (α:=Nat) (fun i=>i≤ls.length∧(ls.take i).findSome? (Rt.pk sw p)=none) (fun i=>[.keep,.keep,.keep,.keep,.keep,.keep,.set (.int .i64 0),.set (.int .i64 0),.set (.int .i64 0),.set (.bool false),.keep,.drop,.drop,.drop,.drop,.keep,.keep,.keep,.keep,.keep,.keep,.set (.int .i64 i),.drop,.drop,.drop,.drop,.drop,.drop,.drop,.drop,.drop,.drop,.drop,.drop,.drop,.drop,.drop,.drop,.drop,.drop,.drop,.drop,.drop,.drop,.drop,.drop,.drop,.drop,.drop,.drop,.drop,.drop,.drop,.drop]) (fun _=>[.keep,.keep,.keep]) (fun i=>ls.length - i) 0 ⟨Nat.zero_le _,rfl⟩ ?_ (MemFits.eq rfl) ?_
  · repeat (first|exact FitsSl.nil|refine FitsSl.any ?_|refine FitsSl.cons (Fit1.int (by first | rfl | omega)) ?_|refine FitsSl.cons (Fit1.bool rfl) ?_|refine FitsSl.cons (Fit1.same (by intro h;cases h) (by with_reducible rfl)) ?_)
  (intro i ⟨hi,hno⟩;intro K hK;(conv=>whnf);refine hK _ _ ?_;clear hK K)
  by_cases hlt:i<ls.length
  · have hx:ls[i]?=some ls[i]:=List.getElem?_eq_getElem hlt
    obtain ⟨c0,c1,c2,c3,c4,c5⟩:=hg i _ hx
    have hnx:(ls.take (i+1)).findSome? (Rt.pk sw p)=Rt.pk sw p ls[i]:=by rw [List.take_add_one,hx,Option.toList_some,List.findSome?_append,hno];simp [List.findSome?];cases Rt.pk sw p ls[i]<;>rfl
    have hall:∀ q,Rt.pk sw p ls[i]=some q→ls.findSome? (Rt.pk sw p)=some q:=fun q hq=>by
      have:ls=ls.take (i+1)++ls.drop (i+1):=(List.take_append_drop _ _).symm
      rw [this,List.findSome?_append,hnx,hq]
      rfl
    have hpk:Rt.pk sw p ls[i]=if sw=ls[i].a∧p=ls[i].pa then some (ls[i].b,ls[i].pb) else if sw=ls[i].b∧p=ls[i].pb then some (ls[i].a,ls[i].pa) else none:=rfl
    generalize ls[i]=x at *
    (repeat' (first|(with_reducible first|(refine hK _ _ ?_;clear hK K)|(refine hA ?_;clear hA hB A B))|((with_reducible refine z25 ?_);intro K hK;(conv=>whnf))|(with_reducible refine z0 ?_)|((first|((with_reducible refine NIf.decY ?s ?_);case s=>omega)|(with_reducible first|refine NN.cast ?_|refine NN.keep ?_)|((with_reducible refine NH.mk ?s ?_);case s=>(and_intros<;>first|with_reducible rfl|((with_reducible refine gOnes ?_);rfl)|((with_reducible refine gLen ?_);rfl)|omega))|(with_reducible refine NLd.of (by with_reducible assumption) ?_))<;>(conv=>whnf))|(with_reducible first|refine z3 ?_|refine z4 ?_|refine z5 ?_|refine z6 ?_)|((with_reducible refine z29 ?_);intro A B hA hB;(conv=>whnf))|(with_reducible first|refine z1 ?_|refine z2 ?_)|((intro _;skip)<;>(conv=>whnf))))
    rename_i b1 b2 b3
    refine st_drawCut (α:=Nat × Nat) (fun _=>True) (fun y=>((List.replicate 54 .keep).set 13 (.set (.ptr 4 ⟨y.1,0,none⟩ 0))).set 14 (.set (.ptr 5 ⟨y.2,0,none⟩ 0))) (fun y=>[.keep,.keep,.keep,.keep,.set ⟨⟨y.1,0,none⟩,[.int .i64 x.a,.int .i64 x.pa],.var 127⟩,.set ⟨⟨y.2,0,none⟩,[.int .i64 x.b,.int .i64 x.pb],.var 127⟩]) ?_ ?_
    · (repeat' (first|(with_reducible first|(refine hK _ _ ?_;clear hK K)|(refine hK _ ?_;clear hK K))|((first|(with_reducible refine NN.a5 ?_)|((with_reducible refine NH.mk ?s ?_);case s=>(and_intros<;>first|with_reducible rfl|((with_reducible refine gOnes ?_);rfl)|((with_reducible refine gLen ?_);rfl)|((with_reducible refine gKept ?_);exact rfl)|rfl)))<;>(conv=>whnf))|(with_reducible refine st_ordSout ?_)|((with_reducible refine gNOK ?_);(first|(refine st_ordK1 rfl (by kernel_rfl) rfl ?_;intro K hK;(conv=>whnf))|refine st_ordK0 rfl (by kernel_rfl) ?_|refine st_ordKA rfl rfl (by kernel_rfl) (by intro h;cases h) ?_))|((with_reducible refine gNEK ?_);(first|(refine st_eachK ?_ ?_;(intro K hK;(conv=>whnf)))|exact st_eachK0))|((with_reducible refine gX ?_);refine st_orderS [] rfl rfl (by kernel_rfl) _ rfl ?_)|(with_reducible refine z1 ?_)|((intro _;skip)<;>(conv=>whnf))))
      all_goals
        rename_i y1 y2
        first
          | (refine cut_done (y1,y2) trivial ?_ (MemFits.eq rfl);(repeat (first|exact FitsSl.nil|refine FitsSl.any ?_|refine FitsSl.cons (Fit1.int (by first | rfl | omega)) ?_|refine FitsSl.cons (Fit1.bool rfl) ?_|refine FitsSl.cons (Fit1.same (by intro h;cases h) (by with_reducible rfl)) ?_)))
          | (refine cut_done (y2,y1) trivial ?_ (MemFits.pick [0,1,2,3,5,4] (by decide) rfl);(repeat (first|exact FitsSl.nil|refine FitsSl.any ?_|refine FitsSl.cons (Fit1.int (by first | rfl | omega)) ?_|refine FitsSl.cons (Fit1.bool rfl) ?_|refine FitsSl.cons (Fit1.same (by intro h;cases h) (by with_reducible rfl)) ?_|refine FitsSl.cons (Fit1.ptr rfl rfl) ?_)))
    (intro ⟨y1,y2⟩ _;intro K hK;(conv=>whnf);refine hK _ _ ?_;clear hK K)
    dsimp only
    by_cases e12:sw=x.a∧p=x.pa
    · rw [if_pos e12] at hpk
      (repeat' (first|(with_reducible first|(refine hK _ _ ?_;clear hK K)|(refine hA ?_;clear hA hB A B)|(refine hK _ ?_;clear hK K))|((with_reducible refine z25 ?_);intro K hK;(conv=>whnf))|(with_reducible refine z0 ?_)|((with_reducible refine z27 ?_);intro K hK;(conv=>whnf))|(with_reducible refine z24 ?_)|((first|((with_reducible refine NIf.yes ?s ?_);case s=>(simp [e12.1,e12.2];done))|(with_reducible refine NN.a5 ?_)|((with_reducible refine NH.mk ?s ?_);case s=>(and_intros<;>with_reducible rfl)))<;>(conv=>whnf))|((with_reducible refine gX ?_);(first|(with_reducible first|refine z3 ?_|refine z4 ?_|refine z5 ?_|refine z8 ?_)|((with_reducible refine z29 ?_);intro A B hA hB;(conv=>whnf))|refine z34 (by kernel_rfl) (by kernel_rfl) ?_))|(with_reducible first|refine z1 ?_|refine z2 ?_|refine z12 ?_|refine z13 ?_|refine z20 ?_)|((with_reducible refine gR ?_);(refine z31 rfl ?_;intro K hK;(conv=>whnf)))|((refine NFlat_iff.2 ⟨⟨?s1,?s2⟩,?_⟩;(case s1=>decide +kernel);(case s2=>decide +kernel))<;>(conv=>whnf))))
      all_goals (rw [hall _ hpk];exact ⟨⟨i,rfl⟩,MemFits.pre 1 rfl⟩)
    · rw [if_neg e12] at hpk
      by_cases e34:sw=x.b∧p=x.pb
      · rw [if_pos e34] at hpk
        (repeat' (first|(with_reducible first|(refine hK _ _ ?_;clear hK K)|(refine hA ?_;clear hA hB A B)|(refine hB ?_;clear hA hB A B)|(refine hK _ ?_;clear hK K))|((with_reducible refine z25 ?_);intro K hK;(conv=>whnf))|(with_reducible refine z0 ?_)|((with_reducible refine z27 ?_);intro K hK;(conv=>whnf))|(with_reducible refine z24 ?_)|((first|((with_reducible refine NV.i64 ?s ?_);case s=>omega)|(with_reducible first|refine NIf.both (fun _=>?_) (fun _=>?_)|refine NN.a5 ?_)|((with_reducible refine NH.mk ?s ?_);case s=>(and_intros<;>with_reducible rfl)))<;>(conv=>whnf))|((with_reducible refine gX ?_);(first|(with_reducible first|refine z3 ?_|refine z4 ?_|refine z5 ?_|refine z6 ?_|refine z8 ?_)|((with_reducible refine z29 ?_);intro A B hA hB;(conv=>whnf))|refine z34 (by kernel_rfl) (by kernel_rfl) ?_))|(with_reducible first|refine z1 ?_|refine z2 ?_|refine z9 ?_|refine z12 ?_|refine z13 ?_|refine z20 ?_)|((with_reducible refine gR ?_);(refine z31 rfl ?_;intro K hK;(conv=>whnf)))|((refine NFlat_iff.2 ⟨⟨?s1,?s2⟩,?_⟩;(case s1=>decide +kernel);(case s2=>decide +kernel))<;>(conv=>whnf))))
        all_goals first
          | (exfalso;rename_i hq;simp only [Bool.and_eq_true,decide_eq_true_eq,and_true] at hq;exact e12 hq)
          | (rw [hall _ hpk];exact ⟨⟨i,rfl⟩,MemFits.pre 1 rfl⟩)
          | (exfalso;rename_i hq;simp only [Bool.and_eq_false_iff,decide_eq_false_iff_not,or_false,reduceCtorEq] at hq;rcases hq with hq | hq;exact hq e34.1;exact hq e34.2)
      · rw [if_neg e34] at hpk
        (repeat' (first|(with_reducible first|(refine hK _ _ ?_;clear hK K)|(refine hA ?_;clear hA hB A B)|(refine hB ?_;clear hA hB A B)|(refine hK _ ?_;clear hK K))|((with_reducible refine z25 ?_);intro K hK;(conv=>whnf))|(with_reducible refine z0 ?_)|((with_reducible refine z27 ?_);intro K hK;(conv=>whnf))|(with_reducible refine z24 ?_)|((first|((with_reducible refine NV.i64 ?s ?_);case s=>omega)|(with_reducible first|refine NIf.both (fun _=>?_) (fun _=>?_)|refine NN.a5 ?_)|((with_reducible refine NH.mk ?s ?_);case s=>(and_intros<;>with_reducible rfl)))<;>(conv=>whnf))|((with_reducible refine gX ?_);(first|(with_reducible first|refine z3 ?_|refine z4 ?_|refine z5 ?_|refine z6 ?_|refine z8 ?_)|((with_reducible refine z29 ?_);intro A B hA hB;(conv=>whnf))|refine z34 (by kernel_rfl) (by kernel_rfl) ?_))|(with_reducible first|refine z1 ?_|refine z2 ?_|refine z9 ?_|refine z12 ?_|refine z13 ?_|refine z20 ?_)|((with_reducible refine gR ?_);(refine z31 rfl ?_;intro K hK;(conv=>whnf)))|((refine NFlat_iff.2 ⟨⟨?s1,?s2⟩,?_⟩;(case s1=>decide +kernel);(case s2=>decide +kernel))<;>(conv=>whnf))))
        all_goals first
          | (exfalso;rename_i hq;simp only [Bool.and_eq_true,decide_eq_true_eq,and_true] at hq;exact e12 hq)
          | (exfalso;rename_i hq;simp only [Bool.and_eq_true,decide_eq_true_eq,and_true] at hq;exact e34 hq)
          | (refine st_round (i+1) ⟨hlt,by rw [hnx,hpk]⟩ (by omega) ?_ (MemFits.pre 3 rfl);(repeat (first|exact FitsSl.nil|refine FitsSl.any ?_|refine FitsSl.cons (Fit1.int (by first | rfl | omega)) ?_|refine FitsSl.cons (Fit1.bool rfl) ?_|refine FitsSl.cons (Fit1.same (by intro h;cases h) (by with_reducible rfl)) ?_)))
  · obtain rfl:i=ls.length:=by omega
    rw [List.take_length] at hno
    rw [hno]
    (repeat' (first|(with_reducible first|(refine hK _ _ ?_;clear hK K)|(refine hB ?_;clear hA hB A B)|(refine hK _ ?_;clear hK K))|((with_reducible refine z25 ?_);intro K hK;(conv=>whnf))|(with_reducible refine z0 ?_)|(((with_reducible refine NIf.decN ?s ?_);case s=>omega)<;>(conv=>whnf))|(with_reducible first|refine z3 ?_|refine z4 ?_|refine z7 ?_|refine z8 ?_)|((with_reducible refine z29 ?_);intro A B hA hB;(conv=>whnf))|(with_reducible first|refine z1 ?_|refine z2 ?_|refine z10 ?_|refine z11 ?_|refine z19 ?_)|((with_reducible refine gR ?_);(refine z31 rfl ?_;intro K hK;(conv=>whnf)))))
    all_goals exact ⟨⟨0,rfl⟩,MemFits.pre 1 rfl⟩
end Go.Proofs.Ytijkmhmgigaieaa
