import Derived.Test.YtgphhbadnjfbjaaDoorSuR
namespace Go.Proofs.YtgphhbadnjfbjaaDoor
open Go.Sx
set_option maxRecDepth 20000
set_option linter.unusedSimpArgs false
set_option linter.unusedVariables false
set_option maxHeartbeats 4000000
set_option linter.unusedVariables false
namespace Su
theorem ones_int (l:List Int):ones (intAV l)=true:=by
  induction l with
  | nil=>rfl
  | cons n l ih=>exact ih
def hd7 (c:Cfg):List Int:=[c.sw,c.rate,c.room,c.wide,c.lead,c.margin,c.retry]
theorem flat_next' {α:Type} (f:α→List Int) (l:List α) (i:Nat) (h:i<l.length):(l.take (i+1)).flatMap f=(l.take i).flatMap f++f l[i]:=by
  rw [List.take_succ_eq_append_getElem h,List.flatMap_append]
  simp
end Su
theorem times40_c (F:Heap) (c:Su.Cfg) (lv hv wv sv:Value) (hc:Su.At F c lv hv wv sv) (hl:c.links.length≤30) (hh:c.hosts.length≤30) (hs:c.starts.length≤30) :
    NCall Tryd.prog 14 [.agg (Su.cs c lv hv wv sv)] [hpB F] fun r m=>r = .bool (Su.times c)∧m=[hpB F]:=by
  refine NCall.fits (K:=fun r m=>r = .bool (Su.times c)∧MemFits m [hpB F]) ?_ fun r m' h=>⟨r,_,rfl,h.2,h.1,rfl⟩
  have hok1:=hc.l.ok
  have hok2:=hc.h.ok
  have hok3:=hc.s.ok
  have hall:=RowF.all hc.s
  unfold Su.cs
  refine ncall_of Tryd.func14 rfl (by decide) ?_
  (repeat' (first|(with_reducible first|(refine hK _ _ ?_;clear hK K)|(refine hK _ ?_;clear hK K))|((with_reducible refine gO ?_);(first|((with_reducible refine z25 ?_);intro K hK;(conv=>whnf))|(with_reducible refine z0 ?_)))|((first|((with_reducible refine gN ?_);(with_reducible refine NN.a5 ?_))|((with_reducible refine gH ?_);((((with_reducible refine NH.mk ?side ?_);case side=>(and_intros<;>first | with_reducible rfl | omega | ((first | exact Su.ones_int _ | exact hok3 | rfl))))))))<;>(conv=>whnf))|(refine NRd.of (Su.intAV c.starts) (by rw [Su.intAV_len,Nat.mul_one]) (by rw [Su.intAV_den];exact hall.1) ?_;conv=>whnf)|((with_reducible refine gX ?_);((with_reducible first|refine z3 ?_|refine z4 ?_|refine z5 ?_)))|(with_reducible first|refine z1 ?_|refine z2 ?_)|((with_reducible refine gF ?_);((refine z33 rfl ?_);intro K hK;(conv=>whnf)))|((intro _;skip)<;>(conv=>whnf))))
  rename_i w0
  refine st_auto (α:=Nat × List Int × Value) (fun (i,l,u)=>i≤c.links.length∧l=Su.hd7 c++c.starts++(c.links.take i).flatMap Su.Lk.l∧l.length≤37+6*i) (fun (i,l,u)=>[.keep,.keep,.set (.bool false),.set (.sl 2 u l.length),.set (.int .i64 i),.drop,.keep,.keep,.keep,.keep,.keep,.keep,.keep,.keep,.keep,.keep,.keep,.keep,.keep,.keep,.keep,.keep,.keep,.keep,.keep,.keep,.keep,.keep,.drop,.drop,.drop,.drop,.drop,.drop,.drop,.drop,.drop,.drop,.drop,.drop,.drop,.drop,.drop,.drop,.drop,.drop,.drop,.drop,.drop,.drop,.drop,.drop,.drop,.drop,.drop,.drop,.drop,.keep,.keep,.keep,.keep,.keep,.keep,.keep,.keep,.keep,.keep,.keep,.keep,.keep,.keep,.keep,.keep,.keep,.keep,.keep,.keep,.keep,.keep,.keep,.keep,.keep,.keep,.keep,.keep,.keep,.keep,.keep,.keep,.keep,.keep,.keep,.keep,.keep]) (fun (i,l,u)=>[.keep,.keep,.set ⟨addrOf u,Su.intAV l,.row u 3 1 l.length⟩]) (fun (i,l,u)=>c.links.length - i) (0,Su.hd7 c++c.starts,w0) ⟨Nat.zero_le _,by simp,by rw [List.length_append];show 7+_≤_;omega⟩ ?_ ?_ ?_
  · dsimp only
    rw [List.length_append]
    repeat (first|exact FitsSl.nil|refine FitsSl.any ?_|refine FitsSl.cons (Fit1.int (by first | rfl | omega)) ?_|refine FitsSl.cons (Fit1.bool rfl) ?_|refine FitsSl.cons (Fit1.same (by intro h;cases h) (by with_reducible rfl)) ?_|refine FitsSl.cons (Fit1.sl rfl) ?_)
  · dsimp only
    rw [List.length_append]
    unfold Su.intAV
    rw [List.map_append]
    exact MemFits.eq rfl
  (intro ⟨i,l,u⟩ ⟨hi,hle,hll⟩;intro K hK;(conv=>whnf);refine hK _ _ ?_;clear hK K)
  dsimp only at hi hle hll ⊢
  by_cases hlt:i<c.links.length
  · obtain ⟨g0,g1,g2,g3,g4,g5⟩:=RowF.get6 (f0:=fun x:Su.Lk=>.int .i64 x.a) (f1:=fun x=>.int .i64 x.pa) (f2:=fun x=>.int .i64 x.b) (f3:=fun x=>.int .i64 x.pb) (f4:=fun x=>.int .i64 x.lo) (f5:=fun x=>.int .i64 x.hi) hc.l hlt
    have hstep:=Su.flat_next' Su.Lk.l c.links i hlt
    generalize c.links[i]=x at *
    (repeat' (first|(with_reducible first|(refine hK _ _ ?_;clear hK K)|(refine hA ?_;clear hA hB A B))|((with_reducible refine z25 ?_);intro K hK;(conv=>whnf))|(with_reducible refine z0 ?_)|((first|((with_reducible refine NV.i64 ?s ?_);case s=>omega)|((with_reducible refine NIf.decY ?s ?_);case s=>omega)|(with_reducible first|refine NN.cast ?_|refine NN.a5 ?_|refine NN.keep ?_)|((with_reducible refine NH.mk ?s ?_);case s=>(and_intros<;>first|with_reducible rfl|((with_reducible refine gOnes ?_);rfl)|((with_reducible refine gLen ?_);rfl)|omega))|(with_reducible refine NLd.of (by with_reducible assumption) ?_))<;>(conv=>whnf))|(with_reducible first|refine z3 ?_|refine z4 ?_|refine z5 ?_|refine z6 ?_)|((with_reducible refine z29 ?_);intro A B hA hB;(conv=>whnf))|(with_reducible first|refine z1 ?_|refine z2 ?_|refine z9 ?_)|((intro _;skip)<;>(conv=>whnf))))
    all_goals rename_i w2
    all_goals refine st_round (i+1,l++x.l,w2) ⟨hlt,by rw [hle,hstep];simp only [List.append_assoc],by dsimp only;rw [List.length_append];show _+6≤_;omega⟩ (by dsimp only;omega) ?_ ?_
    · dsimp only
      rw [List.length_append]
      repeat (first|exact FitsSl.nil|refine FitsSl.any ?_|refine FitsSl.cons (Fit1.int (by first | rfl | omega)) ?_|refine FitsSl.cons (Fit1.bool rfl) ?_|refine FitsSl.cons (Fit1.same (by intro h;cases h) (by with_reducible rfl)) ?_|refine FitsSl.cons (Fit1.sl rfl) ?_)
    · dsimp only
      rw [List.length_append]
      unfold Su.intAV
      rw [List.map_append]
      exact MemFits.pre 3 rfl
  · obtain rfl:i=c.links.length:=by omega
    rw [List.take_length] at hle
    clear hi hlt
    have hl1:l.length≤217:=by omega
    clear hll
    (repeat' (first|(with_reducible first|(refine hK _ _ ?_;clear hK K)|(refine hB ?_;clear hA hB A B))|((with_reducible refine z25 ?_);intro K hK;(conv=>whnf))|(with_reducible refine z0 ?_)|((first|((with_reducible refine NIf.no ?s ?_);case s=>(simp ;done))|(with_reducible refine NN.a5 ?_)|((with_reducible refine NH.mk ?s ?_);case s=>(and_intros<;>first|with_reducible rfl|omega)))<;>(conv=>whnf))|(with_reducible first|refine z3 ?_|refine z4 ?_|refine z5 ?_|refine z7 ?_)|((with_reducible refine z29 ?_);intro A B hA hB;(conv=>whnf))|(with_reducible first|refine z1 ?_|refine z2 ?_|refine z10 ?_|refine z11 ?_|refine z19 ?_)))
    refine st_auto (α:=Nat × List Int × Value) (fun (i,k,u)=>i≤c.hosts.length∧k=l++(c.hosts.take i).flatMap Su.Hs.l∧k.length≤217+2*i) (fun (i,l,u)=>[.keep,.keep,.set (.bool false),.set (.sl 2 u l.length),.keep,.keep,.set (.int .i64 i),.keep,.keep,.keep,.keep,.keep,.keep,.keep,.keep,.keep,.keep,.keep,.keep,.keep,.keep,.keep,.keep,.keep,.keep,.keep,.keep,.keep,.keep,.keep,.keep,.keep,.keep,.keep,.keep,.keep,.keep,.keep,.keep,.keep,.keep,.keep,.keep,.keep,.keep,.keep,.keep,.keep,.keep,.keep,.keep,.keep,.keep,.keep,.keep,.keep,.keep,.drop,.drop,.drop,.drop,.drop,.drop,.drop,.drop,.drop,.drop,.drop,.drop,.drop,.drop,.drop,.drop,.drop,.drop,.drop,.drop,.drop,.drop,.drop,.drop,.drop,.keep,.keep,.keep,.keep,.keep,.keep,.keep,.keep,.keep,.keep,.keep,.keep]) (fun (i,l,u)=>[.keep,.keep,.set ⟨addrOf u,Su.intAV l,.row u 3 1 l.length⟩]) (fun (i,l,u)=>c.hosts.length - i) (0,l,u) ⟨Nat.zero_le _,by simp,by first | omega | (dsimp only;omega)⟩ ?_ ?_ ?_
    · repeat (first|exact FitsSl.nil|refine FitsSl.any ?_|refine FitsSl.cons (Fit1.int (by first | rfl | omega)) ?_|refine FitsSl.cons (Fit1.bool rfl) ?_|refine FitsSl.cons (Fit1.same (by intro h;cases h) (by with_reducible rfl)) ?_)
    · exact MemFits.eq rfl
    (intro ⟨i,k,u2⟩ ⟨hi,hke,hkl⟩;intro K hK;(conv=>whnf);refine hK _ _ ?_;clear hK K)
    dsimp only at hi hke hkl ⊢
    by_cases hlt:i<c.hosts.length
    · obtain ⟨g0,g1⟩:=RowF.get2 (f0:=fun x:Su.Hs=>.int .i64 x.at_) (f1:=fun x=>.int .i64 x.port) hc.h hlt
      have hstep:=Su.flat_next' Su.Hs.l c.hosts i hlt
      generalize c.hosts[i]=x at *
      (repeat' (first|(with_reducible first|(refine hK _ _ ?_;clear hK K)|(refine hA ?_;clear hA hB A B)|(refine hK _ ?_;clear hK K))|((with_reducible refine z25 ?_);intro K hK;(conv=>whnf))|(with_reducible refine z0 ?_)|((first|((with_reducible refine NV.i64 ?s ?_);case s=>omega)|((with_reducible refine NIf.decY ?s ?_);case s=>omega)|(with_reducible first|refine NN.cast ?_|refine NN.a5 ?_|refine NN.a6 ?_|refine NN.keep ?_)|((with_reducible refine NH.mk ?s ?_);case s=>(and_intros<;>first|with_reducible rfl|((with_reducible refine gOnes ?_);rfl)|((with_reducible refine gLen ?_);rfl)|((with_reducible refine gKept ?_);exact rfl)|omega|rfl))|(with_reducible refine NLd.of (by with_reducible assumption) ?_))<;>(conv=>whnf))|(with_reducible refine st_ordSout ?_)|((with_reducible refine gNOK ?_);(first|(refine st_ordK1 rfl (by kernel_rfl) rfl ?_;intro K hK;(conv=>whnf))|refine st_ordK0 rfl (by kernel_rfl) ?_|refine st_ordKA rfl rfl (by kernel_rfl) (by intro h;cases h) ?_))|((with_reducible refine gNEK ?_);(first|(refine st_eachK ?_ ?_;(intro K hK;(conv=>whnf)))|exact st_eachK0))|((with_reducible refine gX ?_);(first|refine st_orderS [2] rfl rfl (by kernel_rfl) _ rfl ?_|(with_reducible first|refine z3 ?_|refine z4 ?_|refine z5 ?_|refine z6 ?_)|((with_reducible refine z29 ?_);intro A B hA hB;(conv=>whnf))))|(with_reducible first|refine z1 ?_|refine z2 ?_|refine z9 ?_)|((intro _;skip)<;>(conv=>whnf))))
      all_goals rename_i w2
      all_goals refine st_round (i+1,k++x.l,w2) ⟨hlt,by rw [hke,hstep];simp only [List.append_assoc],by dsimp only;rw [List.length_append];show _+2≤_;omega⟩ (by dsimp only;omega) ?_ ?_
      · dsimp only
        rw [List.length_append]
        repeat (first|exact FitsSl.nil|refine FitsSl.any ?_|refine FitsSl.cons (Fit1.int (by first | rfl | omega)) ?_|refine FitsSl.cons (Fit1.bool rfl) ?_|refine FitsSl.cons (Fit1.same (by intro h;cases h) (by with_reducible rfl)) ?_|refine FitsSl.cons (Fit1.sl rfl) ?_)
      · dsimp only
        rw [List.length_append]
        unfold Su.intAV
        rw [List.map_append]
        exact MemFits.pre 3 rfl
    · obtain rfl:i=c.hosts.length:=by omega
      rw [List.take_length] at hke
      have hk:k=Su.nL c:=by rw [hke,hle];unfold Su.nL Su.hd7;rfl
      have hk1:k.length≤277:=by omega
      unfold Su.times
      rw [← hk]
      clear hi hlt hke hkl hle hl1 hk
      (repeat' (first|(with_reducible first|(refine hK _ _ ?_;clear hK K)|(refine hB ?_;clear hA hB A B))|((with_reducible refine z25 ?_);intro K hK;(conv=>whnf))|(with_reducible refine z0 ?_)|((first|((with_reducible refine NIf.no ?s ?_);case s=>(simp ;done))|(with_reducible refine NN.a5 ?_)|((with_reducible refine NH.mk ?s ?_);case s=>(and_intros<;>first|with_reducible rfl|omega)))<;>(conv=>whnf))|(with_reducible first|refine z3 ?_|refine z4 ?_|refine z5 ?_|refine z7 ?_)|((with_reducible refine z29 ?_);intro A B hA hB;(conv=>whnf))|(with_reducible first|refine z1 ?_|refine z2 ?_|refine z10 ?_|refine z11 ?_|refine z19 ?_)))
      refine st_auto (α:=Nat) (fun i=>i≤k.length∧∀ j (h:j<k.length),j<i→Su.tm k[j]=true) (fun i=>[.keep,.keep,.set (.bool false),.keep,.keep,.keep,.keep,.set (.int .i64 i),.keep,.keep,.keep,.keep,.keep,.keep,.keep,.keep,.keep,.keep,.keep,.keep,.keep,.keep,.keep,.keep,.keep,.keep,.keep,.keep,.keep,.keep,.keep,.keep,.keep,.keep,.keep,.keep,.keep,.keep,.keep,.keep,.keep,.keep,.keep,.keep,.keep,.keep,.keep,.keep,.keep,.keep,.keep,.keep,.keep,.keep,.keep,.keep,.keep,.keep,.keep,.keep,.keep,.keep,.keep,.keep,.keep,.keep,.keep,.keep,.keep,.keep,.keep,.keep,.keep,.keep,.keep,.keep,.keep,.keep,.keep,.keep,.keep,.keep,.drop,.drop,.drop,.drop,.drop,.drop,.drop,.drop,.drop,.drop,.drop,.drop]) (fun i=>[]) (fun i=>k.length - i) 0 ⟨Nat.zero_le _,fun j h hj=>by omega⟩ ?_ ?_ ?_
      · repeat (first|exact FitsSl.nil|refine FitsSl.any ?_|refine FitsSl.cons (Fit1.int (by first | rfl | omega)) ?_|refine FitsSl.cons (Fit1.bool rfl) ?_|refine FitsSl.cons (Fit1.same (by intro h;cases h) (by with_reducible rfl)) ?_)
      · exact MemFits.eq rfl
      (intro i ⟨hi,hpre⟩;intro K hK;(conv=>whnf);refine hK _ _ ?_;clear hK K)
      by_cases hlt:i<k.length
      · have hav:(Su.intAV k)[i]?=some (.int .i64 k[i]):=by unfold Su.intAV;rw [List.getElem?_map,List.getElem?_eq_getElem hlt];rfl
        have ct:=time40_c k[i]
        have hin:Su.tm k[i]=true→∀ j (h:j<k.length),j<i+1→Su.tm k[j]=true:=fun hx j h hj=>by
          rcases Nat.lt_or_ge j i with h' | h'
          · exact hpre j h h'
          · obtain rfl:j=i:=by omega
            exact hx
        have hno:Su.tm k[i]=false→k.all Su.tm=false:=fun hx=>by
          refine Bool.eq_false_iff.2 fun e=>?_
          rw [List.all_eq_true] at e
          rw [e _ (List.getElem_mem hlt)] at hx
          cases hx
        clear hpre
        generalize k[i]=n at *
        cases hn:Su.tm n with
        | true =>
          rw [hn] at ct
          (repeat' (first|(with_reducible first|(refine hK _ _ ?_;clear hK K)|(refine hA ?_;clear hA hB A B)|(refine hB ?_;clear hA hB A B))|((with_reducible refine gO ?_);(first|((with_reducible refine z25 ?_);intro K hK;(conv=>whnf))|(with_reducible refine z0 ?_)))|((first|((with_reducible refine gV ?_);(((with_reducible refine NV.i64 ?s ?_);case s=>omega)))|((with_reducible refine gI ?_);(first|with_reducible refine NIf.not_ ?_|((with_reducible refine NIf.decY ?s ?_);case s=>omega)|((with_reducible refine NIf.yes ?s ?_);case s=>rfl)))|((with_reducible refine gN ?_);(with_reducible first|refine NN.cast ?_|refine NN.a2 ?_))|((with_reducible refine gH ?_);((with_reducible refine NH.mk ?s ?_);case s=>(and_intros<;>first|with_reducible rfl|omega)))|((with_reducible refine gC ?_);((with_reducible refine NCall.isF 38 ?_);refine NCall.pureE (ct) ?_)))<;>(conv=>whnf))|((refine nthK.of (hav) ?_)<;>(conv=>whnf))|((with_reducible refine gX ?_);(first|(with_reducible first|refine z3 ?_|refine z4 ?_|refine z5 ?_|refine z6 ?_)|((with_reducible refine z29 ?_);intro A B hA hB;(conv=>whnf))))|(with_reducible first|refine z1 ?_|refine z2 ?_|refine z9 ?_)))
          all_goals refine st_round (i+1) ⟨hlt,hin hn⟩ (by omega) ?_ (MemFits.eq rfl)
          all_goals repeat (first|exact FitsSl.nil|refine FitsSl.any ?_|refine FitsSl.cons (Fit1.int (by first | rfl | omega)) ?_|refine FitsSl.cons (Fit1.bool rfl) ?_|refine FitsSl.cons (Fit1.same (by intro h;cases h) (by with_reducible rfl)) ?_)
        | false =>
          rw [hn] at ct
          rw [hno hn]
          (repeat' (first|(with_reducible first|(refine hK _ _ ?_;clear hK K)|(refine hA ?_;clear hA hB A B)|(refine hK _ ?_;clear hK K))|((with_reducible refine gO ?_);(first|((with_reducible refine z25 ?_);intro K hK;(conv=>whnf))|(with_reducible refine z0 ?_)))|((first|((with_reducible refine gI ?_);(first|with_reducible refine NIf.not_ ?_|((with_reducible refine NIf.decY ?s ?_);case s=>omega)|((with_reducible refine NIf.no ?s ?_);case s=>rfl)))|((with_reducible refine gN ?_);(with_reducible first|refine NN.cast ?_|refine NN.a2 ?_))|((with_reducible refine gH ?_);((with_reducible refine NH.mk ?s ?_);case s=>(and_intros<;>first|with_reducible rfl|omega)))|((with_reducible refine gC ?_);((with_reducible refine NCall.isF 38 ?_);refine NCall.pureE (ct) ?_)))<;>(conv=>whnf))|((refine nthK.of (hav) ?_)<;>(conv=>whnf))|((with_reducible refine gX ?_);(first|(with_reducible first|refine z3 ?_|refine z4 ?_|refine z5 ?_|refine z6 ?_|refine z8 ?_)|((with_reducible refine z29 ?_);intro A B hA hB;(conv=>whnf))))|(with_reducible first|refine z1 ?_|refine z2 ?_|refine z12 ?_|refine z13 ?_|refine z20 ?_)|((with_reducible refine gR ?_);((refine z31 rfl ?_);intro K hK;(conv=>whnf)))))
          all_goals exact ⟨rfl,MemFits.pre 1 rfl⟩
      · obtain rfl:i=k.length:=by omega
        have ha:k.all Su.tm=true:=by
          rw [List.all_eq_true]
          intro x hx
          obtain ⟨j,hj,rfl⟩:=List.getElem_of_mem hx
          exact hpre j hj hj
        rw [ha]
        (repeat' (first|(with_reducible first|(refine hK _ _ ?_;clear hK K)|(refine hB ?_;clear hA hB A B)|(refine hK _ ?_;clear hK K))|((with_reducible refine z25 ?_);intro K hK;(conv=>whnf))|(with_reducible refine z0 ?_)|((first|((with_reducible refine NIf.decN ?s ?_);case s=>omega)|((with_reducible refine NH.mk ?s ?_);case s=>(and_intros<;>with_reducible rfl)))<;>(conv=>whnf))|(with_reducible first|refine z3 ?_|refine z4 ?_|refine z7 ?_|refine z8 ?_)|((with_reducible refine z29 ?_);intro A B hA hB;(conv=>whnf))|(with_reducible first|refine z1 ?_|refine z2 ?_|refine z10 ?_|refine z11 ?_|refine z19 ?_)|((with_reducible refine gR ?_);(refine z31 rfl ?_;intro K hK;(conv=>whnf)))))
        all_goals exact ⟨rfl,MemFits.pre 1 rfl⟩
end Go.Proofs.YtgphhbadnjfbjaaDoor
