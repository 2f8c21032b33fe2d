import Derived.Test.YtijkmhmgigaieaaTc2
import Derived.Test.YtijkmhmgigaieaaSxCut
namespace Go.Proofs.Ytijkmhmgigaieaa
open Go.Sx
set_option maxRecDepth 20000
set_option linter.unusedSimpArgs false
set_option linter.unusedVariables false
set_option maxHeartbeats 4000000
set_option linter.unusedVariables false
namespace Tc
def atI (out:List C) (u:Int) (n:Nat):Int:=match (stk (out.take n) u).getLast? with
  | none=>-1
  | some k=>k
theorem atI_next {out:List C} {u:Int} {n:Nat} {c:C} (h:out[n]?=some c):atI out u (n+1)=if c.id=u∧c.end_=0 then (n:Int) else atI out u n:=by
  unfold atI
  rw [stk_take h]
  by_cases hc:c.id=u∧c.end_=0
  · rw [if_pos hc,if_pos (by simp [isOpen,hc]),List.getLast?_concat]
  · rw [if_neg hc,if_neg (by simpa [isOpen] using hc),List.append_nil]
theorem atI_all (out:List C) (u:Int):atI out u out.length=match (stk out u).getLast? with
  | none=>-1
  | some k=>(k:Int):=by unfold atI;rw [List.take_length]
theorem psC_at {ps:List L} {k:Nat} {p:L} (h:ps[k]?=some p) (j:Nat) (hj:j<8):(psC ps)[k*8+j]?=(cs p.x p.v)[j]?:=by
  obtain ⟨A,B,rfl,hA⟩:=split_at h
  rw [psC_mid]
  exact get_mid (by rw [psC_len,hA]) hj
theorem sw_focus {h e:Blk} {a:Addr} {cs1 cs2:List AV} {kd:Kind} {t:TypeId} {A B:List L} {p:L} (hc:denL cs1=denL cs2) :
    MemFits [h,⟨a,cs1,kd⟩,manyB (swB t (A++p::B)),e] [h,⟨a,cs2,kd⟩,manyB (swB t (A++B)),e,(own t p).blk] :=
  (MemFits.congr (m':=[h,⟨a,cs2,kd⟩,manyB (swB t (A++p::B)),e]) (by simp only [List.map_cons,List.map_nil,hc])).trans (MemFits.focus (i:=2) rfl (swB_wr _ _) (swB_mid t A B p))
theorem sw_back {h x:Blk} {a:Addr} {cs1 cs2:List AV} {kd:Kind} {t:TypeId} {A B:List L} {p:L} (hc:denL cs1=denL cs2) (hx:MemFits [h,⟨a,cs1,kd⟩,manyB (swB t (A++B)),x] [h,⟨a,cs1,kd⟩,manyB (swB t (A++B)),(own t p).blk]) :
    MemFits [h,⟨a,cs1,kd⟩,manyB (swB t (A++B)),x] [h,⟨a,cs2,kd⟩,manyB (swB t (A++p::B))] :=
  hx.trans ((MemFits.congr (m':=[h,⟨a,cs2,kd⟩,manyB (swB t (A++B)),(own t p).blk]) (by simp only [List.map_cons,List.map_nil,hc])).trans
    (MemFits.unfocus (m:=[h,⟨a,cs2,kd⟩,manyB (swB t (A++B))]) (i:=2) rfl (swB_wr _ _) (swB_mid t A B p)))
theorem sw_new {h o:Blk} {t:TypeId} {ps:List L} {c:C} (hc:c.sws=[]):MemFits [h,o,manyB (swB t ps)] [h,o,manyB (swB t (ps++[⟨c,.slice none 0 0⟩]))]:=by
  have e:(own t ⟨c,.slice none 0 0⟩).blk=⟨⟨0,0,none⟩,[],.row (.slice none 0 0) t 1 0⟩:=by unfold own OwnR.blk;dsimp only;rw [hc];rfl
  refine (MemFits.nilRow _ t 1).trans ?_
  rw [← e]
  exact MemFits.unfocus (m:=[h,o,manyB (swB t ps)]) (i:=2) rfl (swB_wr _ _) (swB_next t ps _)
theorem cells1 {h:Blk} {a:Addr} {cs cs':List AV} {k:Kind} {m:List Blk} (hd:denL cs=denL cs'):MemFits (h::⟨a,cs,k⟩::m) (h::⟨a,cs',k⟩::m) :=
  MemFits.congr (by simp only [List.map_cons,hd])
theorem put_mid {A M B:List AV} {a j:Nat} {x:AV} {K:List AV→Prop} (ha:A.length=a) (hj:j<M.length) (hK:K (A++(M.set j x++B))):putK (A++(M++B)) (a+j) [x] K :=
  putK.one (by simp;omega) (by rw [set_mid ha hj];exact hK)
theorem nth_mid {A M B:List AV} {a j:Nat} {x:AV} (ha:A.length=a) (hj:j<M.length) (hx:M[j]?=some x:=by rfl):(A++(M++B))[a+j]?=some x:=(get_mid ha hj).trans hx
end Tc
theorem refof41_c (F:Heap) (v:Value) (l:List Tc.E) (hv:Tc.ERow F v l) (hl:l.length≤1000) :
    NCall Try.prog 33 [.hs v l.length] [hpB F] fun r m=>Tc.Lays F (Tc.tr l) r m:=by
  refine Tc.rows_know (t:=77) (ti:=3) ?_
  have hok:=hv.ok
  refine ncall_of Try.func33 rfl (by decide) ?_
  (repeat' (first|(with_reducible first|(refine hK _ _ ?_;clear hK K)|(refine hK _ ?_;clear hK K))|((with_reducible refine z25 ?_);intro K hK;(conv=>whnf))|(with_reducible first|refine z0 ?_|refine z3 ?_|refine z4 ?_|refine z5 ?_|refine z1 ?_|refine z2 ?_)|((with_reducible refine gF ?_);(refine z33 rfl ?_;intro K hK;(conv=>whnf)))))
  refine st_auto (α:=Value × Nat × List Tc.L) (fun (w,i,ps)=>i≤l.length∧ps.map (·.x)=Tc.tr (l.take i)) (fun (w,i,ps)=>[.keep,.keep,.keep,.set (.sl 1 w ps.length),.set (.int .i64 i),.drop,.drop,.drop,.drop,.drop,.drop,.drop,.drop,.drop,.drop,.drop,.drop,.drop,.drop,.drop,.drop,.drop,.drop,.drop,.drop,.drop,.drop,.drop,.drop,.drop,.drop,.drop,.drop,.drop,.drop,.drop,.drop,.drop,.drop,.drop,.drop,.drop,.drop,.drop,.drop,.drop,.drop,.drop,.drop,.drop,.drop,.drop,.drop,.drop,.drop,.drop,.drop,.drop,.drop,.drop,.drop,.drop,.drop,.drop,.drop,.drop,.drop,.drop,.drop,.drop,.drop,.drop,.drop,.drop,.drop,.drop,.drop,.drop,.drop,.drop,.drop,.drop,.drop,.drop,.drop,.drop,.drop,.drop,.drop,.drop,.drop,.drop,.drop,.drop,.drop,.drop,.drop,.drop,.drop,.drop,.drop,.drop,.drop,.drop,.drop,.drop,.drop,.keep])
    (fun (w,i,ps)=>[.keep,.set ⟨addrOf w,Tc.psC ps,.row w 77 8 ps.length⟩,.set (manyB (Tc.swB 3 ps))]) (fun (w,i,ps)=>l.length - i) (.slice none 0 0,0,[]) ⟨Nat.zero_le _,rfl⟩ ?_ ((MemFits.nilRow _ 77 8).trans (MemFits.noMany _)) ?_
  · repeat (first|exact FitsSl.nil|refine FitsSl.any ?_|refine FitsSl.cons (Fit1.int (by first | rfl | omega)) ?_|refine FitsSl.cons (Fit1.same (by intro h;cases h) (by with_reducible rfl)) ?_|refine FitsSl.cons Fit1.nil_sl ?_)
  (intro ⟨w,i,ps⟩ ⟨hi,hps⟩;intro K hK;(conv=>whnf);refine hK _ _ ?_;clear hK K)
  dsimp only
  have hsh:=Tc.tr_short (l.take i)
  rw [List.length_take,Nat.min_eq_left hi,← hps] at hsh
  have hpl:ps.length≤i:=by simpa using hsh.1
  have hpc:=Tc.psC_len ps
  have hones:=Tc.ones_psC ps
  by_cases hlt:i<l.length
  · have hx:l[i]?=some l[i]:=List.getElem?_eq_getElem hlt
    obtain ⟨c0,c1,c2,c3,c4,c5⟩:=hv.get hx
    have hnx:Tc.tr (l.take (i+1))=Tc.step (ps.map (·.x)) l[i]:=by rw [List.take_add_one,hx,Option.toList_some,Tc.tr_snoc,hps]
    generalize l[i]=e at *
    have hat:∀ (qs:List Tc.L) (k:Nat) (c:Tc.C),(qs.map (·.x))[k]?=some c→(Tc.psC qs)[k*8]?=some (.int .i64 c.id)∧(Tc.psC qs)[k*8+5]?=some (.int .i64 c.end_):=fun qs k c h=>by
      rw [List.getElem?_map] at h
      cases hq:qs[k]? with
      | none=>rw [hq] at h;cases h
      | some p =>
        rw [hq] at h
        simp only [Option.map_some,Option.some.injEq] at h
        subst h
        exact ⟨Tc.psC_at hq 0 (by decide),Tc.psC_at hq 5 (by decide)⟩
    by_cases hk1:e.kind=1
    · (repeat' (first|(with_reducible first|(refine hK _ _ ?_;clear hK K)|(refine hA ?_;clear hA hB A B))|((with_reducible refine z25 ?_);intro K hK;(conv=>whnf))|(with_reducible refine z0 ?_)|((first|((with_reducible refine NIf.decY ?s ?_);case s=>first|assumption|omega)|(with_reducible first|refine NN.cast ?_|refine NN.a5 ?_|refine NN.keep ?_)|((with_reducible refine NH.mk ?s ?_);case s=>(and_intros<;>first|with_reducible rfl|((with_reducible refine gOnes ?_);rfl)|((with_reducible refine gLen ?_);rfl)|omega))|(with_reducible refine NLd.of (by with_reducible assumption) ?_))<;>(conv=>whnf))|(with_reducible first|refine z3 ?_|refine z4 ?_|refine z5 ?_|refine z6 ?_)|((with_reducible refine z29 ?_);intro A B hA hB;(conv=>whnf))|(with_reducible first|refine z1 ?_|refine z2 ?_)|((intro _;skip)<;>(conv=>whnf))))
      rename_i be bl w2
      obtain ⟨p,hp⟩:∃ p:Tc.L,p=⟨Tc.new e,.slice none 0 0⟩:=⟨_,rfl⟩
      have hpx:(ps++[p]).map (·.x)=Tc.tr (l.take (i+1)):=by rw [hnx,Tc.step_new hk1,List.map_append,hp];rfl
      have hpc2:=Tc.psC_len (ps++[p])
      have hn2:=Tc.psC_next ps p
      have hnl:((ps++[p]).map (·.x)).length=ps.length+1:=by simp
      have hnl2:(ps++[p]).length=ps.length+1:=by simp
      have hd:denL (Tc.psC ps++[.int .i64 e.u,.int .i64 e.x,.int .i64 e.y,.int .i64 e.real,.raw (.slice none 0 0),.int .i64 0,.int .i64 0,.int .i64 e.real])=denL (Tc.psC (ps++[p])):=by rw [hn2,denL_append,denL_append,hp];rfl
      have hat2:=hat (ps++[p])
      have hm5:MemFits [hpB F,⟨addrOf w2,Tc.psC (ps++[p]),.row w2 77 8 (ps.length+1)⟩,manyB (Tc.swB 3 ps)] [hpB F,⟨addrOf w2,Tc.psC (ps++[p]),.row w2 77 8 (ps++[p]).length⟩,manyB (Tc.swB 3 (ps++[p]))]:=by
        rw [hnl2,hp]
        exact Tc.sw_new rfl
      refine st_auto (α:=Nat) (fun k=>k≤ps.length+1) (fun k=>[.keep,.keep,.keep,.keep,.keep,.keep,.set (.int .i64 (Tc.atI ((ps++[p]).map (·.x)) e.u k)),.set (.int .i64 k),.keep,.keep,.keep,.keep,.keep,.keep,.keep,.keep,.keep,.keep,.keep,.keep,.keep,.keep,.keep,.keep,.keep,.keep,.keep,.keep,.keep,.keep,.keep,.keep,.keep,.keep,.keep,.drop,.drop,.drop,.drop,.drop,.drop,.drop,.drop,.drop,.drop,.drop,.drop,.drop,.drop,.drop,.drop,.drop,.drop,.drop,.drop,.drop,.drop,.drop,.keep,.keep,.keep,.keep,.keep,.keep,.keep,.keep,.keep,.keep,.keep,.keep,.keep,.keep,.keep,.keep,.keep,.keep,.keep,.keep,.keep,.keep,.keep,.keep,.keep,.keep,.keep,.keep,.keep,.keep,.keep,.keep,.keep,.keep,.keep,.keep,.keep,.keep,.keep,.keep,.keep,.keep,.keep,.keep,.keep,.keep,.keep,.keep,.keep,.keep])
        (fun k=>[.keep,.set ⟨addrOf w2,Tc.psC (ps++[p]),.row w2 77 8 (ps.length+1)⟩]) (fun k=>ps.length+1 - k) 0 (Nat.zero_le _) ?_ (Tc.cells1 hd) ?_
      · repeat (first|exact FitsSl.nil|refine FitsSl.any ?_|refine FitsSl.cons (Fit1.int (by first | rfl | omega)) ?_|refine FitsSl.cons (Fit1.bool rfl) ?_|refine FitsSl.cons (Fit1.same (by intro h;cases h) (by with_reducible rfl)) ?_)
      (intro k hk;intro K hK;(conv=>whnf);refine hK _ _ ?_;clear hK K)
      generalize hQ:ps++[p]=qs at *
      by_cases hkl:k<ps.length+1
      · have hc:(qs.map (·.x))[k]?=some ((qs.map (·.x))[k]'(by omega)):=List.getElem?_eq_getElem (by omega)
        obtain ⟨h0,h5⟩:=hat2 k _ hc
        have hn3:=Tc.atI_next (u:=e.u) hc
        generalize (qs.map (·.x))[k]'(by omega)=c at *
        by_cases g1:c.id=e.u
        · by_cases g2:c.end_=0
          · rw [if_pos ⟨g1,g2⟩] at hn3
            (repeat' (first|(with_reducible first|(refine hK _ _ ?_;clear hK K)|(refine hA ?_;clear hA hB A B))|((with_reducible refine gO ?_);(first|((with_reducible refine z25 ?_);intro K hK;(conv=>whnf))|(with_reducible refine z0 ?_)))|((with_reducible refine gP ?_);(first|((with_reducible first|refine z27 ?_|refine z28 ?_);intro K hK;(conv=>whnf))|(with_reducible refine z24 ?_)))|((first|((with_reducible refine gV ?_);(((with_reducible refine NV.i64 ?s ?_);case s=>omega)))|((with_reducible refine gI ?_);(((with_reducible refine NIf.decY ?s ?_);case s=>first|assumption|omega)))|((with_reducible refine gN ?_);(with_reducible first|refine NN.cast ?_|refine NN.a5 ?_|refine NN.a6 ?_|refine NN.keep ?_))|((with_reducible refine gH ?_);((with_reducible refine NH.mk ?s ?_);case s=>(and_intros<;>first|with_reducible rfl|omega))))<;>(conv=>whnf))|((refine nthK.of (h0) ?_)<;>(conv=>whnf))|((refine nthK.of (h5) ?_)<;>(conv=>whnf))|((with_reducible refine gX ?_);(first|(with_reducible first|refine z3 ?_|refine z4 ?_|refine z5 ?_|refine z6 ?_)|((with_reducible refine z29 ?_);intro A B hA hB;(conv=>whnf))|(refine z34 (by kernel_rfl) (by kernel_rfl) ?_)))|(with_reducible first|refine z1 ?_|refine z2 ?_|refine z9 ?_)))
            refine st_round (k+1) (by omega) (by omega) ?_ (MemFits.eq rfl)
            repeat (first|exact FitsSl.nil|refine FitsSl.any ?_|refine FitsSl.cons (Fit1.int (by first | rfl | omega)) ?_|refine FitsSl.cons (Fit1.bool rfl) ?_|refine FitsSl.cons (Fit1.same (by intro h;cases h) (by with_reducible rfl)) ?_)
          · rw [if_neg (fun h=>g2 h.2)] at hn3
            (repeat' (first|(with_reducible first|(refine hK _ _ ?_;clear hK K)|(refine hA ?_;clear hA hB A B)|(refine hB ?_;clear hA hB A B))|((with_reducible refine gO ?_);(first|((with_reducible refine z25 ?_);intro K hK;(conv=>whnf))|(with_reducible refine z0 ?_)))|((with_reducible refine gP ?_);(first|((with_reducible first|refine z27 ?_|refine z28 ?_);intro K hK;(conv=>whnf))|(with_reducible refine z24 ?_)))|((first|((with_reducible refine gV ?_);(((with_reducible refine NV.i64 ?s ?_);case s=>omega)))|((with_reducible refine gI ?_);(first|((with_reducible refine NIf.decY ?s ?_);case s=>first|assumption|omega)|((with_reducible refine NIf.decN ?s ?_);case s=>assumption)))|((with_reducible refine gN ?_);(with_reducible first|refine NN.cast ?_|refine NN.a5 ?_|refine NN.a6 ?_|refine NN.keep ?_))|((with_reducible refine gH ?_);((with_reducible refine NH.mk ?s ?_);case s=>(and_intros<;>first|with_reducible rfl|omega))))<;>(conv=>whnf))|((refine nthK.of (h0) ?_)<;>(conv=>whnf))|((refine nthK.of (h5) ?_)<;>(conv=>whnf))|((with_reducible refine gX ?_);(first|(with_reducible first|refine z3 ?_|refine z4 ?_|refine z5 ?_|refine z6 ?_)|((with_reducible refine z29 ?_);intro A B hA hB;(conv=>whnf))|(refine z34 (by kernel_rfl) (by kernel_rfl) ?_)))|(with_reducible first|refine z1 ?_|refine z2 ?_|refine z9 ?_)))
            refine st_round (k+1) (by omega) (by omega) ?_ (MemFits.eq rfl)
            repeat (first|exact FitsSl.nil|refine FitsSl.any ?_|refine FitsSl.cons (Fit1.int (by first | rfl | omega)) ?_|refine FitsSl.cons (Fit1.bool rfl) ?_|refine FitsSl.cons (Fit1.same (by intro h;cases h) (by with_reducible rfl)) ?_)
        · rw [if_neg (fun h=>g1 h.1)] at hn3
          (repeat' (first|(with_reducible first|(refine hK _ _ ?_;clear hK K)|(refine hA ?_;clear hA hB A B)|(refine hB ?_;clear hA hB A B))|((with_reducible refine gO ?_);(first|((with_reducible refine z25 ?_);intro K hK;(conv=>whnf))|(with_reducible refine z0 ?_)))|((with_reducible refine gP ?_);(first|((with_reducible first|refine z27 ?_|refine z28 ?_);intro K hK;(conv=>whnf))|(with_reducible refine z24 ?_)))|((first|((with_reducible refine gV ?_);(((with_reducible refine NV.i64 ?s ?_);case s=>omega)))|((with_reducible refine gI ?_);(first|((with_reducible refine NIf.decY ?s ?_);case s=>omega)|((with_reducible refine NIf.decN ?s ?_);case s=>assumption)|((with_reducible refine NIf.no ?s ?_);case s=>rfl)))|((with_reducible refine gN ?_);(with_reducible first|refine NN.cast ?_|refine NN.a5 ?_|refine NN.a6 ?_|refine NN.keep ?_))|((with_reducible refine gH ?_);((with_reducible refine NH.mk ?s ?_);case s=>(and_intros<;>first|with_reducible rfl|omega))))<;>(conv=>whnf))|((refine nthK.of (h0) ?_)<;>(conv=>whnf))|((with_reducible refine gX ?_);(first|(with_reducible first|refine z3 ?_|refine z4 ?_|refine z5 ?_|refine z6 ?_)|((with_reducible refine z29 ?_);intro A B hA hB;(conv=>whnf))|(refine z34 (by kernel_rfl) (by kernel_rfl) ?_)))|(with_reducible first|refine z1 ?_|refine z2 ?_|refine z9 ?_)))
          refine st_round (k+1) (by omega) (by omega) ?_ (MemFits.eq rfl)
          repeat (first|exact FitsSl.nil|refine FitsSl.any ?_|refine FitsSl.cons (Fit1.int (by first | rfl | omega)) ?_|refine FitsSl.cons (Fit1.bool rfl) ?_|refine FitsSl.cons (Fit1.same (by intro h;cases h) (by with_reducible rfl)) ?_)
      · (repeat' (first|(with_reducible first|(refine hK _ _ ?_;clear hK K)|(refine hA ?_;clear hA hB A B)|(refine hB ?_;clear hA hB A B))|((with_reducible first|refine z25 ?_|refine z26 ?_);intro K hK;(conv=>whnf))|(with_reducible refine z0 ?_)|((first|((with_reducible refine NV.i64 ?s ?_);case s=>omega)|((with_reducible refine NIf.decY ?s ?_);case s=>first|assumption|omega)|((with_reducible refine NIf.decN ?s ?_);case s=>first|assumption|omega)|((with_reducible refine NIf.yes ?s ?_);case s=>rfl)|(with_reducible first|refine NIf.dec (fun _=>?_) (fun _=>?_)|refine NN.a5 ?_)|((with_reducible refine NH.mk ?s ?_);case s=>(and_intros<;>with_reducible rfl)))<;>(conv=>whnf))|(with_reducible first|refine z3 ?_|refine z4 ?_|refine z7 ?_)|((with_reducible refine z29 ?_);intro A B hA hB;(conv=>whnf))|(with_reducible first|refine z1 ?_|refine z2 ?_|refine z10 ?_|refine z11 ?_|refine z19 ?_)))
        all_goals
          refine st_round (w2,i+1,qs) ⟨by show i+1≤l.length;omega,hpx⟩ (by show l.length - (i+1)<l.length - i;omega) ?_ ?_
        all_goals first | exact (MemFits.pre 3 rfl).trans hm5 | skip
        all_goals repeat (first|exact FitsSl.nil|refine FitsSl.any ?_|refine FitsSl.cons (Fit1.int (by first | rfl | omega)) ?_|refine FitsSl.cons (Fit1.same (by intro h;cases h) (by with_reducible rfl)) ?_|refine FitsSl.cons (Fit1.sl rfl) ?_)
    · (repeat' (first|(with_reducible first|(refine hK _ _ ?_;clear hK K)|(refine hA ?_;clear hA hB A B)|(refine hB ?_;clear hA hB A B))|((with_reducible refine z25 ?_);intro K hK;(conv=>whnf))|(with_reducible refine z0 ?_)|((first|((with_reducible refine NIf.no ?s ?_);case s=>simpa using hk1)|((with_reducible refine NIf.decY ?s ?_);case s=>omega)|(with_reducible first|refine NN.cast ?_|refine NN.a5 ?_|refine NN.keep ?_)|((with_reducible refine NH.mk ?s ?_);case s=>(and_intros<;>first|with_reducible rfl|((with_reducible refine gOnes ?_);rfl)|((with_reducible refine gLen ?_);rfl)|omega))|(with_reducible refine NLd.of (by with_reducible assumption) ?_))<;>(conv=>whnf))|(with_reducible first|refine z3 ?_|refine z4 ?_|refine z5 ?_|refine z6 ?_)|((with_reducible refine z29 ?_);intro A B hA hB;(conv=>whnf))|(with_reducible first|refine z1 ?_|refine z2 ?_)|((intro _;skip)<;>(conv=>whnf))))
      rename_i be
      have hat2:=hat ps
      have hnl:(ps.map (·.x)).length=ps.length:=by simp
      refine st_auto (α:=Nat) (fun k=>k≤ps.length) (fun k=>[.keep,.keep,.keep,.keep,.keep,.keep,.set (.int .i64 (Tc.atI (ps.map (·.x)) e.u k)),.set (.int .i64 k),.keep,.keep,.keep,.keep,.keep,.keep,.keep,.keep,.keep,.keep,.keep,.keep,.keep,.keep,.keep,.keep,.keep,.keep,.keep,.keep,.keep,.keep,.keep,.keep,.keep,.keep,.keep,.drop,.drop,.drop,.drop,.drop,.drop,.drop,.drop,.drop,.drop,.drop,.drop,.drop,.drop,.drop,.drop,.drop,.drop,.drop,.drop,.drop,.drop,.drop,.keep,.keep,.keep,.keep,.keep,.keep,.keep,.keep,.keep,.keep,.keep,.keep,.keep,.keep,.keep,.keep,.keep,.keep,.keep,.keep,.keep,.keep,.keep,.keep,.keep,.keep,.keep,.keep,.keep,.keep,.keep,.keep,.keep,.keep,.keep,.keep,.keep,.keep,.keep,.keep,.keep,.keep,.keep,.keep,.keep,.keep,.keep,.keep,.keep,.keep])
        (fun k=>[.keep]) (fun k=>ps.length - k) 0 (Nat.zero_le _) ?_ (MemFits.eq rfl) ?_
      · repeat (first|exact FitsSl.nil|refine FitsSl.any ?_|refine FitsSl.cons (Fit1.int (by first | rfl | omega)) ?_|refine FitsSl.cons (Fit1.bool rfl) ?_|refine FitsSl.cons (Fit1.same (by intro h;cases h) (by with_reducible rfl)) ?_)
      (intro k hk;intro K hK;(conv=>whnf);refine hK _ _ ?_;clear hK K)
      by_cases hkl:k<ps.length
      · have hc:(ps.map (·.x))[k]?=some ((ps.map (·.x))[k]'(by omega)):=List.getElem?_eq_getElem (by omega)
        obtain ⟨h0,h5⟩:=hat2 k _ hc
        have hn3:=Tc.atI_next (u:=e.u) hc
        generalize (ps.map (·.x))[k]'(by omega)=c at *
        by_cases g1:c.id=e.u
        · by_cases g2:c.end_=0
          · rw [if_pos ⟨g1,g2⟩] at hn3
            (repeat' (first|(with_reducible first|(refine hK _ _ ?_;clear hK K)|(refine hA ?_;clear hA hB A B))|((with_reducible refine gO ?_);(first|((with_reducible refine z25 ?_);intro K hK;(conv=>whnf))|(with_reducible refine z0 ?_)))|((with_reducible refine gP ?_);(first|((with_reducible first|refine z27 ?_|refine z28 ?_);intro K hK;(conv=>whnf))|(with_reducible refine z24 ?_)))|((first|((with_reducible refine gV ?_);(((with_reducible refine NV.i64 ?s ?_);case s=>omega)))|((with_reducible refine gI ?_);(((with_reducible refine NIf.decY ?s ?_);case s=>first|assumption|omega)))|((with_reducible refine gN ?_);(with_reducible first|refine NN.cast ?_|refine NN.a5 ?_|refine NN.a6 ?_|refine NN.keep ?_))|((with_reducible refine gH ?_);((with_reducible refine NH.mk ?s ?_);case s=>(and_intros<;>first|with_reducible rfl|omega))))<;>(conv=>whnf))|((refine nthK.of (h0) ?_)<;>(conv=>whnf))|((refine nthK.of (h5) ?_)<;>(conv=>whnf))|((with_reducible refine gX ?_);(first|(with_reducible first|refine z3 ?_|refine z4 ?_|refine z5 ?_|refine z6 ?_)|((with_reducible refine z29 ?_);intro A B hA hB;(conv=>whnf))|(refine z34 (by kernel_rfl) (by kernel_rfl) ?_)))|(with_reducible first|refine z1 ?_|refine z2 ?_|refine z9 ?_)))
            refine st_round (k+1) (by omega) (by omega) ?_ (MemFits.eq rfl)
            repeat (first|exact FitsSl.nil|refine FitsSl.any ?_|refine FitsSl.cons (Fit1.int (by first | rfl | omega)) ?_|refine FitsSl.cons (Fit1.bool rfl) ?_|refine FitsSl.cons (Fit1.same (by intro h;cases h) (by with_reducible rfl)) ?_)
          · rw [if_neg (fun h=>g2 h.2)] at hn3
            (repeat' (first|(with_reducible first|(refine hK _ _ ?_;clear hK K)|(refine hA ?_;clear hA hB A B)|(refine hB ?_;clear hA hB A B))|((with_reducible refine gO ?_);(first|((with_reducible refine z25 ?_);intro K hK;(conv=>whnf))|(with_reducible refine z0 ?_)))|((with_reducible refine gP ?_);(first|((with_reducible first|refine z27 ?_|refine z28 ?_);intro K hK;(conv=>whnf))|(with_reducible refine z24 ?_)))|((first|((with_reducible refine gV ?_);(((with_reducible refine NV.i64 ?s ?_);case s=>omega)))|((with_reducible refine gI ?_);(first|((with_reducible refine NIf.decY ?s ?_);case s=>first|assumption|omega)|((with_reducible refine NIf.decN ?s ?_);case s=>assumption)))|((with_reducible refine gN ?_);(with_reducible first|refine NN.cast ?_|refine NN.a5 ?_|refine NN.a6 ?_|refine NN.keep ?_))|((with_reducible refine gH ?_);((with_reducible refine NH.mk ?s ?_);case s=>(and_intros<;>first|with_reducible rfl|omega))))<;>(conv=>whnf))|((refine nthK.of (h0) ?_)<;>(conv=>whnf))|((refine nthK.of (h5) ?_)<;>(conv=>whnf))|((with_reducible refine gX ?_);(first|(with_reducible first|refine z3 ?_|refine z4 ?_|refine z5 ?_|refine z6 ?_)|((with_reducible refine z29 ?_);intro A B hA hB;(conv=>whnf))|(refine z34 (by kernel_rfl) (by kernel_rfl) ?_)))|(with_reducible first|refine z1 ?_|refine z2 ?_|refine z9 ?_)))
            refine st_round (k+1) (by omega) (by omega) ?_ (MemFits.eq rfl)
            repeat (first|exact FitsSl.nil|refine FitsSl.any ?_|refine FitsSl.cons (Fit1.int (by first | rfl | omega)) ?_|refine FitsSl.cons (Fit1.bool rfl) ?_|refine FitsSl.cons (Fit1.same (by intro h;cases h) (by with_reducible rfl)) ?_)
        · rw [if_neg (fun h=>g1 h.1)] at hn3
          (repeat' (first|(with_reducible first|(refine hK _ _ ?_;clear hK K)|(refine hA ?_;clear hA hB A B)|(refine hB ?_;clear hA hB A B))|((with_reducible refine gO ?_);(first|((with_reducible refine z25 ?_);intro K hK;(conv=>whnf))|(with_reducible refine z0 ?_)))|((with_reducible refine gP ?_);(first|((with_reducible first|refine z27 ?_|refine z28 ?_);intro K hK;(conv=>whnf))|(with_reducible refine z24 ?_)))|((first|((with_reducible refine gV ?_);(((with_reducible refine NV.i64 ?s ?_);case s=>omega)))|((with_reducible refine gI ?_);(first|((with_reducible refine NIf.decY ?s ?_);case s=>omega)|((with_reducible refine NIf.decN ?s ?_);case s=>assumption)|((with_reducible refine NIf.no ?s ?_);case s=>rfl)))|((with_reducible refine gN ?_);(with_reducible first|refine NN.cast ?_|refine NN.a5 ?_|refine NN.a6 ?_|refine NN.keep ?_))|((with_reducible refine gH ?_);((with_reducible refine NH.mk ?s ?_);case s=>(and_intros<;>first|with_reducible rfl|omega))))<;>(conv=>whnf))|((refine nthK.of (h0) ?_)<;>(conv=>whnf))|((with_reducible refine gX ?_);(first|(with_reducible first|refine z3 ?_|refine z4 ?_|refine z5 ?_|refine z6 ?_)|((with_reducible refine z29 ?_);intro A B hA hB;(conv=>whnf))|(refine z34 (by kernel_rfl) (by kernel_rfl) ?_)))|(with_reducible first|refine z1 ?_|refine z2 ?_|refine z9 ?_)))
          refine st_round (k+1) (by omega) (by omega) ?_ (MemFits.eq rfl)
          repeat (first|exact FitsSl.nil|refine FitsSl.any ?_|refine FitsSl.cons (Fit1.int (by first | rfl | omega)) ?_|refine FitsSl.cons (Fit1.bool rfl) ?_|refine FitsSl.cons (Fit1.same (by intro h;cases h) (by with_reducible rfl)) ?_)
      · obtain rfl:k=ps.length:=by omega
        have hall:=Tc.atI_all (ps.map (·.x)) e.u
        rw [hnl] at hall
        by_cases hsk:e.kind<2∨4<e.kind∨Tc.stk (ps.map (·.x)) e.u=[]
        · rw [Tc.step_none hk1 hsk,hps] at hnx
          have h7:e.kind<2∨4<e.kind∨Tc.atI (ps.map (·.x)) e.u ps.length = -1:=by
            rcases hsk with h | h | h
            · exact .inl h
            · exact .inr (.inl h)
            · rw [h] at hall;exact .inr (.inr hall)
          clear hall
          generalize Tc.atI (ps.map (·.x)) e.u ps.length=q at *
          (repeat' (first|(with_reducible first|(refine hK _ _ ?_;clear hK K)|(refine hA ?_;clear hA hB A B)|(refine hB ?_;clear hA hB A B))|((with_reducible first|refine z25 ?_|refine z26 ?_);intro K hK;(conv=>whnf))|(with_reducible refine z0 ?_)|((first|((with_reducible refine NV.i64 ?s ?_);case s=>omega)|((with_reducible refine NIf.decY ?s ?_);case s=>first|assumption|omega)|((with_reducible refine NIf.decN ?s ?_);case s=>first|assumption|omega)|((with_reducible refine NIf.yes ?s ?_);case s=>rfl)|(with_reducible first|refine NIf.dec (fun _=>?_) (fun _=>?_)|refine NN.a5 ?_)|((with_reducible refine NH.mk ?s ?_);case s=>(and_intros<;>with_reducible rfl)))<;>(conv=>whnf))|(with_reducible first|refine z3 ?_|refine z4 ?_|refine z7 ?_)|((with_reducible refine z29 ?_);intro A B hA hB;(conv=>whnf))|(with_reducible first|refine z1 ?_|refine z2 ?_|refine z10 ?_|refine z11 ?_|refine z19 ?_)))
          all_goals first | (exfalso;omega) | skip
          all_goals
            refine st_round (w,i+1,ps) ⟨by show i+1≤l.length;omega,by rw [hps];exact hnx.symm⟩ (by show l.length - (i+1)<l.length - i;omega) ?_ (MemFits.pre 3 rfl)
            repeat (first|exact FitsSl.nil|refine FitsSl.any ?_|refine FitsSl.cons (Fit1.int (by first | rfl | omega)) ?_|refine FitsSl.cons (Fit1.same (by intro h;cases h) (by with_reducible rfl)) ?_)
        · obtain ⟨l',k,hl'⟩:∃ l' k,Tc.stk (ps.map (·.x)) e.u=l'++[k]:=by
            rcases List.eq_nil_or_concat (Tc.stk (ps.map (·.x)) e.u) with h4 | ⟨l',k,h4⟩
            · exact (hsk (.inr (.inr h4))).elim
            · exact ⟨l',k,by rw [h4,List.concat_eq_append]⟩
          obtain ⟨c,hc,_,_⟩:=Tc.stk_at hl'
          rw [hl',List.getLast?_concat] at hall
          dsimp only at hall
          rw [Tc.step_upd (by omega) (by omega) hl' hc] at hnx
          have hp:∃ p,ps[k]?=some p∧p.x=c:=by
            rw [List.getElem?_map] at hc
            cases hq:ps[k]? with
            | none=>rw [hq] at hc;cases hc
            | some p=>rw [hq] at hc;exact ⟨p,rfl,by simpa using hc⟩
          obtain ⟨p,hp,rfl⟩:=hp
          obtain ⟨A,B,hAB,hA⟩:=Tc.split_at hp
          have hnx2:∀ v2:Value,(A++⟨Tc.upd e p.x,v2⟩::B:List Tc.L).map (·.x)=Tc.tr (l.take (i+1)):=fun v2=>by
            rw [hnx,hAB]
            simp [← hA]
          have hkl2:k<ps.length:=(List.getElem?_eq_some_iff.1 hp).1
          have hsw:p.x.sws.length≤1000:=Nat.le_trans (hsh.2 p.x (List.mem_map.2 ⟨p,List.mem_of_getElem? hp,rfl⟩)) (by omega)
          have hA8:(Tc.psC A).length=k*8:=by rw [Tc.psC_len,hA]
          have hlen:∀ p':Tc.L,(A++p'::B).length=ps.length:=fun p'=>by rw [hAB];simp
          have hcs8:(Tc.psC A++(Tc.cs p.x p.v++Tc.psC B)).length=ps.length*8:=by rw [← Tc.psC_mid,← hAB];exact hpc
          rw [show Tc.psC ps=Tc.psC A++(Tc.cs p.x p.v++Tc.psC B) by rw [hAB,Tc.psC_mid]]
          clear hat hat2 hl' hc hpc hones
          generalize Tc.atI (ps.map (·.x)) e.u ps.length=q at *
          subst hall
          by_cases hk2:e.kind=2
          · have hu:∀ v2,denL ((Tc.csJ 4 { p.x with last:=e.real } p.v).set 4 (.sl 4 v2 (p.x.sws.length+1)))=denL (Tc.cs (Tc.upd e p.x) v2):=fun v2=>by
              unfold Tc.upd Tc.cs
              rw [if_pos hk2,if_pos hk2,if_neg (by omega)]
              rfl
            have hback:∀ v2,denL (Tc.psC A++((Tc.csJ 4 { p.x with last:=e.real } p.v).set 4 (.sl 4 v2 (p.x.sws.length+1))++Tc.psC B))=denL (Tc.psC (A++⟨Tc.upd e p.x,v2⟩::B)):=fun v2=>by
              rw [Tc.psC_mid,denL_append,denL_append,denL_append,denL_append,hu v2]
            have hown:∀ v2,(Tc.own 3 ⟨Tc.upd e p.x,v2⟩).blk=⟨addrOf v2,Tc.av p.x.sws++[.int .i64 e.sw],.row v2 3 1 (p.x.sws.length+1)⟩:=fun v2=>by
              have h8:(Tc.upd e p.x).sws=p.x.sws++[e.sw]:=if_pos hk2
              unfold Tc.own OwnR.blk
              dsimp only
              rw [h8,Tc.av_next,List.length_append]
              rfl
            rw [show Tc.swB 3 ps=Tc.swB 3 (A++p::B) by rw [hAB]]
            (repeat' (first|(with_reducible first|(refine hK _ _ ?_;clear hK K)|(refine hA ?_;clear hA hB A B)|(refine hB ?_;clear hA hB A B)|(refine hK _ ?_;clear hK K))|((with_reducible refine gO ?_);(first|((with_reducible first|refine z25 ?_|refine z26 ?_);intro K hK;(conv=>whnf))|(with_reducible refine z0 ?_)))|((first|((with_reducible refine gV ?_);(((with_reducible refine NV.i64 ?s ?_);case s=>omega)))|((with_reducible refine gI ?_);(first|((with_reducible refine NIf.decY ?s ?_);case s=>assumption)|((with_reducible refine NIf.decN ?s ?_);case s=>omega)))|((with_reducible refine gN ?_);(with_reducible first|refine NN.cast ?_|refine NN.a5 ?_|refine NN.a6 ?_|refine NN.keep ?_))|((with_reducible refine gH ?_);((with_reducible refine NH.mk ?s ?_);case s=>(and_intros<;>first|with_reducible rfl|((with_reducible refine gOnes ?_);rfl)|((with_reducible refine gLen ?_);rfl)|omega|(simp only [List.length_append,List.length_cons,List.length_nil];omega)|rfl))))<;>(conv=>whnf))|((refine nthK.of (Tc.nth_mid (j:=4) hA8 (Nat.le_of_ble_eq_true rfl)) ?_)<;>(conv=>whnf))|((with_reducible refine gNO ?_);(first|(refine z36 rfl (by kernel_rfl) ?_;intro K hK;(conv=>whnf))|(refine z38 rfl (by kernel_rfl) ?_)|(refine z39 rfl rfl (by kernel_rfl) (by intro h;cases h) ?_)))|((with_reducible refine gNE ?_);(first|(refine z40 ?_ ?_;(intro K hK;(conv=>whnf)))|exact z42))|(refine Tc.put_mid hA8 (Nat.le_of_ble_eq_true rfl) ?_;conv=>whnf)|((with_reducible refine gX ?_);(first|(refine st_drawFits (m:=[hpB F,_,manyB (Tc.swB 3 (A++p::B)),_]) (m':=[hpB F,⟨addrOf w,Tc.psC A++(Tc.csJ 4 { p.x with last:=e.real } p.v++Tc.psC B),.row w 77 8 ps.length⟩,manyB (Tc.swB 3 (A++B)),_,(Tc.own 3 p).blk]) (FitsSl.refl _) (Tc.sw_focus (by rw [denL_append,denL_append,denL_append,denL_append];rfl)) ?_)|(refine z35 (by kernel_rfl) _ rfl ?_)|(with_reducible first|refine z3 ?_|refine z4 ?_|refine z6 ?_|refine z7 ?_)|((with_reducible refine z29 ?_);intro A B hA hB;(conv=>whnf))))|(with_reducible first|refine z1 ?_|refine z2 ?_|refine z9 ?_|refine z10 ?_|refine z11 ?_|refine z19 ?_)|((intro _;skip)<;>(conv=>whnf))))
            all_goals
              rename_i v2
              refine st_round (w,i+1,A++⟨Tc.upd e p.x,v2⟩::B) ⟨by show i+1≤l.length;omega,hnx2 v2⟩ (by show l.length - (i+1)<l.length - i;omega) ?_ ?_
              · repeat (first|exact FitsSl.nil|refine FitsSl.any ?_|refine FitsSl.cons (Fit1.int (by first | rfl | omega)) ?_|refine FitsSl.cons (Fit1.same (by intro h;cases h) (by with_reducible rfl)) ?_|refine FitsSl.cons (Fit1.sl rfl) ?_)
              · show MemFits _ [hpB F,⟨addrOf w,Tc.psC (A++⟨Tc.upd e p.x,v2⟩::B),.row w 77 8 (A++⟨Tc.upd e p.x,v2⟩::B).length⟩,manyB (Tc.swB 3 (A++⟨Tc.upd e p.x,v2⟩::B))]
                rw [hlen]
                have hb:=Tc.sw_back (h:=hpB F) (a:=addrOf w) (kd:=.row w 77 8 ps.length) (t:=3) (A:=A) (x:=(Tc.own 3 ⟨Tc.upd e p.x,v2⟩).blk) (p:=⟨Tc.upd e p.x,v2⟩) (B:=B) (hback v2) (MemFits.eq rfl)
                rw [hown] at hb
                exact (MemFits.pick [0,1,2,4] (by decide) rfl).trans hb
          · have hsame:(Tc.upd e p.x).sws=p.x.sws:=if_neg hk2
            have hsw2:Tc.swB 3 (A++⟨Tc.upd e p.x,p.v⟩::B)=Tc.swB 3 ps:=by
              rw [hAB]
              unfold Tc.swB Tc.own
              simp only [List.map_append,List.map_cons,hsame]
            have hupd:Tc.cs (Tc.upd e p.x) p.v=[.int .i64 p.x.id,.int .i64 p.x.fr,.int .i64 p.x.to,.int .i64 p.x.at_,.hs p.v p.x.sws.length,.int .i64 e.kind,.int .i64 (if e.kind=3 then e.x else p.x.host),.int .i64 e.real]:=by
              unfold Tc.cs
              rw [hsame]
              unfold Tc.upd
              dsimp only
              rw [if_neg hk2]
            by_cases hk3:e.kind=3
            · rw [if_pos hk3] at hupd
              (repeat' (first|(with_reducible first|(refine hK _ _ ?_;clear hK K)|(refine hA ?_;clear hA hB A B)|(refine hB ?_;clear hA hB A B))|((with_reducible first|refine z25 ?_|refine z26 ?_);intro K hK;(conv=>whnf))|(with_reducible refine z0 ?_)|((first|((with_reducible refine NV.i64 ?s ?_);case s=>omega)|((with_reducible refine NIf.decY ?s ?_);case s=>assumption)|((with_reducible refine NIf.decN ?s ?_);case s=>first|assumption|omega)|(with_reducible first|refine NN.cast ?_|refine NN.a5 ?_|refine NN.a6 ?_|refine NN.keep ?_)|((with_reducible refine NH.mk ?s ?_);case s=>(and_intros<;>first|with_reducible rfl|((with_reducible refine gOnes ?_);rfl)|((with_reducible refine gLen ?_);rfl)|omega)))<;>(conv=>whnf))|(refine Tc.put_mid hA8 (Nat.le_of_ble_eq_true rfl) ?_;conv=>whnf)|(with_reducible first|refine z3 ?_|refine z4 ?_|refine z6 ?_|refine z7 ?_)|((with_reducible refine z29 ?_);intro A B hA hB;(conv=>whnf))|(with_reducible first|refine z1 ?_|refine z2 ?_|refine z9 ?_|refine z10 ?_|refine z11 ?_|refine z19 ?_)))
              refine st_round (w,i+1,A++⟨Tc.upd e p.x,p.v⟩::B) ⟨by show i+1≤l.length;omega,hnx2 p.v⟩ (by show l.length - (i+1)<l.length - i;omega) ?_ ?_
              · repeat (first|exact FitsSl.nil|refine FitsSl.any ?_|refine FitsSl.cons (Fit1.int (by first | rfl | omega)) ?_|refine FitsSl.cons (Fit1.same (by intro h;cases h) (by with_reducible rfl)) ?_|refine FitsSl.cons (Fit1.sl rfl) ?_)
              · show MemFits _ [hpB F,⟨addrOf w,Tc.psC (A++⟨Tc.upd e p.x,p.v⟩::B),.row w 77 8 (A++⟨Tc.upd e p.x,p.v⟩::B).length⟩,manyB (Tc.swB 3 (A++⟨Tc.upd e p.x,p.v⟩::B))]
                rw [hlen,hsw2,Tc.psC_mid,hupd]
                exact MemFits.pre 3 rfl
            · rw [if_neg hk3] at hupd
              (repeat' (first|(with_reducible first|(refine hK _ _ ?_;clear hK K)|(refine hB ?_;clear hA hB A B))|((with_reducible first|refine z25 ?_|refine z26 ?_);intro K hK;(conv=>whnf))|(with_reducible refine z0 ?_)|((first|((with_reducible refine NV.i64 ?s ?_);case s=>omega)|((with_reducible refine NIf.decN ?s ?_);case s=>first|assumption|omega)|(with_reducible first|refine NN.cast ?_|refine NN.a5 ?_|refine NN.a6 ?_|refine NN.keep ?_)|((with_reducible refine NH.mk ?s ?_);case s=>(and_intros<;>first|with_reducible rfl|((with_reducible refine gOnes ?_);rfl)|((with_reducible refine gLen ?_);rfl)|omega)))<;>(conv=>whnf))|(refine Tc.put_mid hA8 (Nat.le_of_ble_eq_true rfl) ?_;conv=>whnf)|(with_reducible first|refine z3 ?_|refine z4 ?_|refine z6 ?_|refine z7 ?_)|((with_reducible refine z29 ?_);intro A B hA hB;(conv=>whnf))|(with_reducible first|refine z1 ?_|refine z2 ?_|refine z9 ?_|refine z10 ?_|refine z11 ?_|refine z19 ?_)))
              refine st_round (w,i+1,A++⟨Tc.upd e p.x,p.v⟩::B) ⟨by show i+1≤l.length;omega,hnx2 p.v⟩ (by show l.length - (i+1)<l.length - i;omega) ?_ ?_
              · repeat (first|exact FitsSl.nil|refine FitsSl.any ?_|refine FitsSl.cons (Fit1.int (by first | rfl | omega)) ?_|refine FitsSl.cons (Fit1.same (by intro h;cases h) (by with_reducible rfl)) ?_|refine FitsSl.cons (Fit1.sl rfl) ?_)
              · show MemFits _ [hpB F,⟨addrOf w,Tc.psC (A++⟨Tc.upd e p.x,p.v⟩::B),.row w 77 8 (A++⟨Tc.upd e p.x,p.v⟩::B).length⟩,manyB (Tc.swB 3 (A++⟨Tc.upd e p.x,p.v⟩::B))]
                rw [hlen,hsw2,Tc.psC_mid,hupd]
                exact MemFits.pre 3 rfl
  · have hii:i=l.length:=by omega
    rw [hii,List.take_length] at hps
    (repeat' (first|(with_reducible first|(refine hK _ _ ?_;clear hK K)|(refine hB ?_;clear hA hB A B)|(refine hK _ ?_;clear hK K))|((with_reducible refine z25 ?_);intro K hK;(conv=>whnf))|(with_reducible refine z0 ?_)|((first|((with_reducible refine NIf.decN ?s ?_);case s=>omega)|((with_reducible refine NH.mk ?s ?_);case s=>(and_intros<;>omega)))<;>(conv=>whnf))|(with_reducible first|refine z3 ?_|refine z4 ?_|refine z7 ?_|refine z8 ?_)|((with_reducible refine z29 ?_);intro A B hA hB;(conv=>whnf))|(with_reducible first|refine z1 ?_|refine z2 ?_|refine z10 ?_|refine z11 ?_|refine z19 ?_)|((with_reducible refine gR ?_);(refine z31 rfl ?_;intro K hK;(conv=>whnf)))))
    exact ⟨w,ps,hps,rfl,MemFits.eq rfl⟩
end Go.Proofs.Ytijkmhmgigaieaa
