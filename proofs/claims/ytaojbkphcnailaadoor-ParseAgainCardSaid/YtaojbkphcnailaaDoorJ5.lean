import Derived.Test.YtaojbkphcnailaaDoorJ4
import Derived.Shelf.Strings.Builder1
import Derived.Shelf.Strings.Builder2
import Derived.Shelf.Strings.OnBuilder
import Derived.Shelf.Small.Strs
import Derived.Shelf.Strings.BuilderF
import Derived.Shelf.Strconv.Itoa0
import Derived.Shelf.Strconv.Itoa1
import Derived.Shelf.LaysM
import Derived.Shelf.Strconv.Itoa2
import Derived.Shelf.Strconv.Itoa3
import Derived.Shelf.Strings.Search1
import Derived.Shelf.Strings.Prefix
import Derived.Shelf.Slices.Turned
import Derived.Test.YtaojbkphcnailaaDoorProg
namespace Go.Proofs.YtaojbkphcnailaaDoor
open Go.Sx
set_option maxRecDepth 20000
set_option linter.unusedSimpArgs false
set_option linter.unusedVariables false
set_option linter.unusedVariables false
namespace Lx
def sk (tx:List UInt8) (i:Nat):Nat:=tx.length - (skip (tx.drop i)).length
theorem drop_wl (p:UInt8→Bool) (tx:List UInt8) (i:Nat):(tx.drop i).dropWhile p=tx.drop (i+wl p tx i):=by
  have:=(tw_take p (tx.drop i)).2
  rw [List.drop_drop] at this
  exact this.symm
theorem drop_getD (tx:List UInt8) (i:Nat) (hi:i<tx.length):tx.drop i=tx.getD i 0::tx.drop (i+1):=by
  rw [List.drop_eq_getElem_cons hi]
  simp [List.getD,hi]
end Lx
set_option maxHeartbeats 1000000 in
theorem skip_c (a:Addr) (tx:List UInt8) (i:Nat) (hi:i≤tx.length) (hs:tx.length≤10000) :
    NCall Tryd.prog 82 [.ptr 0 a 0] [LB a tx i] fun r m=>r = .tup []∧m=[LB a tx (Lx.sk tx i)]:=by
  refine ncall_of Tryd.func82 rfl (by decide) ?_
  (repeat' (first|(with_reducible first|(refine hK _ ?_;clear hK K)|refine z5 ?_)|((with_reducible refine gF ?_);(refine z33 rfl ?_;intro K hK;(conv=>whnf)))))
  refine st_auto (α:=Nat) (fun j=>j≤tx.length∧Lx.skip (tx.drop j)=Lx.skip (tx.drop i)) (fun j=>[.keep,.keep,.drop,.drop,.drop,.drop,.drop,.drop,.drop,.drop,.drop,.drop,.drop,.drop,.drop,.drop,.drop,.drop,.drop,.drop,.drop,.drop,.drop,.drop,.drop,.drop,.drop,.drop]) (fun j=>[.set (LB a tx j)]) (fun j=>tx.length - j) i ⟨hi,rfl⟩ ?_ ?_ ?_
  · repeat (first|exact FitsSl.nil|refine FitsSl.any ?_|refine FitsSl.cons (Fit1.same (by intro h;cases h) (by with_reducible rfl)) ?_)
  · exact MemFits.eq rfl
  (intro j ⟨hj,hjs⟩;intro K hK;(conv=>whnf);refine hK _ _ ?_;clear hK K)
  have hw1:=while_c 99 Lx.isSp space_c a tx j hj hs
  have hle:=Lx.wl_le Lx.isSp tx j hj
  have hd:=Lx.drop_wl Lx.isSp tx j
  have hj1:j≤j+Lx.wl Lx.isSp tx j:=Nat.le_add_right _ _
  generalize j+Lx.wl Lx.isSp tx j=j1 at *
  by_cases h1:j1=tx.length
  · have e:Lx.sk tx i=j1:=by
      unfold Lx.sk
      rw [← hjs,Lx.skip_nil (by rw [hd,h1];simp)]
      simp [h1]
    rw [e]
    (repeat' (first|(with_reducible first|(refine hK _ _ ?_;clear hK K)|(refine hA ?_;clear hA hB A B)|(refine hK _ ?_;clear hK K))|((with_reducible refine z25 ?_);intro K hK;(conv=>whnf))|(with_reducible refine z0 ?_)|((with_reducible first|refine z27 ?_|refine z28 ?_);intro K hK;(conv=>whnf))|(with_reducible refine z24 ?_)|((first|((with_reducible refine NIf.decY ?s ?_);case s=>omega)|((with_reducible refine NIf.yes ?s ?_);case s=>rfl)|(with_reducible refine NN.a5 ?_)|((with_reducible refine NH.mk ?s ?_);case s=>(and_intros<;>rfl))|((with_reducible refine NCall.isF 98 ?_);refine NCall.subE [0] (hw1) rfl (by decide) rfl rfl ?_))<;>(conv=>whnf))|((with_reducible refine gX ?_);(first|(with_reducible first|refine z3 ?_|refine z4 ?_|refine z5 ?_|refine z8 ?_)|((with_reducible refine z29 ?_);intro A B hA hB;(conv=>whnf))|refine z34 (by kernel_rfl) (by kernel_rfl) ?_))|(with_reducible first|refine z1 ?_|refine z2 ?_|refine z12 ?_|refine z13 ?_|refine z20 ?_)|((with_reducible refine gR ?_);(refine z31 rfl ?_;intro K hK;(conv=>whnf)))))
    all_goals exact ⟨rfl,rfl⟩
  · have hlt:j1<tx.length:=by omega
    have hg:=Lx.drop_getD tx j1 hlt
    by_cases h2:(tx.getD j1 0)=35
    · have hw2:=while_c 100 Lx.notNl notnl_c a tx j1 (by omega) hs
      have hle2:=Lx.wl_le Lx.notNl tx j1 (by omega)
      have hd2:=Lx.drop_wl Lx.notNl tx j1
      have hn:(tx.getD j1 0).toNat=35:=by rw [h2];rfl
      have hpos:j1<j1+Lx.wl Lx.notNl tx j1:=by
        unfold Lx.wl
        rw [hg,h2,List.takeWhile_cons_of_pos (by decide)]
        simp
      have hst:Lx.skip (tx.drop (j1+Lx.wl Lx.notNl tx j1))=Lx.skip (tx.drop i):=by
        rw [← hjs,Lx.skip_cons (hd.trans hg),if_pos h2,← hd2,hg,h2,List.dropWhile_cons_of_pos (by decide)]
      generalize j1+Lx.wl Lx.notNl tx j1=j2 at *
      (repeat' (first|(with_reducible first|(refine hK _ _ ?_;clear hK K)|(refine hB ?_;clear hA hB A B))|((with_reducible refine z25 ?_);intro K hK;(conv=>whnf))|(with_reducible refine z0 ?_)|((with_reducible first|refine z27 ?_|refine z28 ?_);intro K hK;(conv=>whnf))|(with_reducible refine z24 ?_)|((first|with_reducible refine NIf.not_ ?_|((with_reducible refine NIf.decY ?s ?_);case s=>omega)|((with_reducible refine NIf.decN ?s ?_);case s=>omega)|(with_reducible first|refine NN.cast ?_|refine NN.a5 ?_)|((with_reducible refine NH.mk ?s ?_);case s=>(and_intros<;>first|omega|rfl))|((with_reducible refine NCall.isF 98 ?_);refine NCall.subE [0] (hw1) rfl (by decide) rfl rfl ?_)|((with_reducible refine NCall.isF 98 ?_);refine NCall.subE [0] (hw2) rfl (by decide) rfl rfl ?_))<;>(conv=>whnf))|((with_reducible refine gX ?_);(first|(with_reducible first|refine z3 ?_|refine z4 ?_|refine z5 ?_|refine z6 ?_)|((with_reducible refine z29 ?_);intro A B hA hB;(conv=>whnf))|refine z34 (by kernel_rfl) (by kernel_rfl) ?_))|(with_reducible first|refine z1 ?_|refine z2 ?_|refine z9 ?_)))
      all_goals first
        | (refine st_round j2 ⟨hle2,hst⟩ (by omega) ?_ (MemFits.eq rfl)
           repeat (first|exact FitsSl.nil|refine FitsSl.any ?_|refine FitsSl.cons (Fit1.same (by intro h;cases h) (by with_reducible rfl)) ?_)
          )
    · have hn:(tx.getD j1 0).toNat≠35:=fun e=>h2 (UInt8.toNat_inj.1 (by rw [e];rfl))
      have e:Lx.sk tx i=j1:=by
        unfold Lx.sk
        rw [← hjs,Lx.skip_cons (hd.trans hg),if_neg h2,← hg,List.length_drop]
        omega
      rw [e]
      (repeat' (first|(with_reducible first|(refine hK _ _ ?_;clear hK K)|(refine hA ?_;clear hA hB A B)|(refine hK _ ?_;clear hK K))|((with_reducible refine z25 ?_);intro K hK;(conv=>whnf))|(with_reducible refine z0 ?_)|((with_reducible first|refine z27 ?_|refine z28 ?_);intro K hK;(conv=>whnf))|(with_reducible refine z24 ?_)|((first|with_reducible refine NIf.not_ ?_|((with_reducible refine NIf.decN ?s ?_);case s=>omega)|(with_reducible first|refine NN.cast ?_|refine NN.a5 ?_)|((with_reducible refine NH.mk ?s ?_);case s=>(and_intros<;>first|omega|rfl))|((with_reducible refine NCall.isF 98 ?_);refine NCall.subE [0] (hw1) rfl (by decide) rfl rfl ?_))<;>(conv=>whnf))|((with_reducible refine gX ?_);(first|(with_reducible first|refine z3 ?_|refine z4 ?_|refine z5 ?_|refine z8 ?_)|((with_reducible refine z29 ?_);intro A B hA hB;(conv=>whnf))|refine z34 (by kernel_rfl) (by kernel_rfl) ?_))|(with_reducible first|refine z1 ?_|refine z2 ?_|refine z12 ?_|refine z13 ?_|refine z20 ?_)|((with_reducible refine gR ?_);(refine z31 rfl ?_;intro K hK;(conv=>whnf)))))
      all_goals exact ⟨rfl,rfl⟩
def tokAV (k n:Int) (t:List UInt8) (at_:Int):AV:=.agg [.int .i64 k,.int .i64 n,.str t,.int .i64 at_]
theorem u8_sub (c:UInt8) (h:Lx.isD c=true):IntKind.u8.wrap ((c.toNat:Int) - 48)=((c.toNat - 48:Nat):Int):=by
  rw [d_dec] at h
  have:=of_decide_eq_true h
  rw [wrap_u8];omega
theorem num_lt:∀ (d:List UInt8),d.length≤3→(∀ c∈d,Lx.isD c=true)→Lx.num d≤999:=by
  intro d hl hd
  have h9:∀ c∈d,c.toNat - 48≤9:=fun c hc=>by
    have:=hd c hc
    rw [d_dec] at this
    have:=of_decide_eq_true this
    omega
  match d with
  | []=>simp [Lx.num]
  | [a]=>have:=h9 a (by simp);simp [Lx.num];omega
  | [a,b]=>have:=h9 a (by simp);have:=h9 b (by simp);simp [Lx.num];omega
  | [a,b,c]=>have:=h9 a (by simp);have:=h9 b (by simp);have:=h9 c (by simp);simp [Lx.num];omega
  | a::b::c::e::r=>simp at hl
theorem num_take (d:List UInt8) (k:Nat) (hk:k<d.length):Lx.num (d.take (k+1))=10*Lx.num (d.take k)+((d.getD k 0).toNat - 48):=by
  have e:d.take (k+1)=d.take k++[d.getD k 0]:=by
    rw [List.take_add_one]
    simp [List.getD,hk]
  unfold Lx.num
  rw [e,List.foldl_append]
  rfl
def Lx.numOk (d:List UInt8):Prop:=¬ (3<d.length∨(1<d.length∧d.getD 0 0=48))
instance (d:List UInt8):Decidable (Lx.numOk d):=by unfold Lx.numOk;infer_instance
set_option maxHeartbeats 1000000 in
theorem number_c (a:Addr) (tx:List UInt8) (i:Nat) (hi:i≤tx.length) (hs:tx.length≤10000) (d:List UInt8) (hd:(tx.drop i).takeWhile Lx.isD=d) (hne:d≠[]) :
    NCall Tryd.prog 103 [.ptr 0 a 0] [LB a tx i] fun r m=>r = .tup [if Lx.numOk d then tokAV 2 (Lx.num d) [] i else tokAV 0 0 [] i,.bool (decide (Lx.numOk d))]∧MemFits m [LB a tx (i+d.length)]:=by
  have hall:∀ c∈d,Lx.isD c=true:=fun c hc=>by rw [← hd] at hc;exact Lx.tw_all hc
  have hw:=while_c 102 Lx.isD digit_c a tx i hi hs
  have hwl:Lx.wl Lx.isD tx i=d.length:=by unfold Lx.wl;rw [hd]
  rw [hwl,hd] at hw
  have hl1:1≤d.length:=by cases d with | nil=>exact (hne rfl).elim | cons x d=>simp
  clear hd hwl
  refine ncall_of Tryd.func103 rfl (by decide) ?_
  by_cases h:Lx.numOk d
  · rw [if_pos h,decide_eq_true h]
    have hl3:d.length≤3:=by
      by_cases e:3<d.length
      · exact (h (.inl e)).elim
      · omega
    have hz:¬ (1<d.length∧(d.getD 0 0).toNat=48):=fun e=>h (.inr ⟨e.1,UInt8.toNat_inj.1 (by rw [e.2];rfl)⟩)
    have hk:=num_lt
    unfold tokAV
    by_cases h1:1<d.length
    · have hz0:(d.getD 0 0).toNat≠48:=fun e=>hz ⟨h1,e⟩
      (repeat' (first|(with_reducible first|(refine hK _ _ ?_;clear hK K)|(refine hB ?_;clear hA hB A B)|(refine hK _ ?_;clear hK K))|((with_reducible first|refine z25 ?_|refine z26 ?_);intro K hK;(conv=>whnf))|(with_reducible refine z0 ?_)|((first|((with_reducible refine NIf.decY ?s ?_);case s=>omega)|((with_reducible refine NIf.decN ?s ?_);case s=>omega)|(with_reducible first|refine NN.lit ?_|refine NN.a5 ?_)|((with_reducible refine NH.mk ?s ?_);case s=>(and_intros<;>first|omega|rfl))|((with_reducible refine NCall.isF 98 ?_);refine NCall.subE [0] (hw) rfl (by decide) rfl rfl ?_))<;>(conv=>whnf))|(with_reducible first|refine z3 ?_|refine z4 ?_|refine z5 ?_|refine z6 ?_)|((with_reducible refine z29 ?_);intro A B hA hB;(conv=>whnf))|(with_reducible first|refine z1 ?_|refine z2 ?_)|((with_reducible refine gF ?_);(refine z33 rfl ?_;intro K hK;(conv=>whnf)))|((intro _;skip)<;>(conv=>whnf))))
      all_goals
        refine st_auto (α:=Nat) (fun k=>k≤d.length) (fun k=>[.keep,.keep,.keep,.keep,.keep,.keep,.set (.int .i64 (Lx.num (d.take k))),.drop,.keep,.keep,.keep,.keep,.keep,.keep,.keep,.keep,.keep,.keep,.keep,.keep,.keep,.keep,.keep,.keep,.keep,.keep,.keep,.keep,.keep,.keep,.keep,.set (.int .i64 k),.drop,.drop,.drop,.drop,.drop,.drop,.drop,.drop,.drop,.drop,.drop,.keep,.keep,.keep]) (fun _=>[]) (fun k=>d.length - k) 0 (Nat.zero_le _) ?_ (MemFits.eq rfl) ?_
        · repeat (first|exact FitsSl.nil|refine FitsSl.any ?_|refine FitsSl.cons (Fit1.int (by first | rfl | omega)) ?_|refine FitsSl.cons (Fit1.bool rfl) ?_|refine FitsSl.cons (Fit1.str rfl) ?_|refine FitsSl.cons (Fit1.same (by intro h;cases h) (by with_reducible rfl)) ?_)
        (intro k hk;intro K hK;(conv=>whnf);refine hK _ _ ?_;clear hK K)
        by_cases hlt:k<d.length
        · have hn:=num_take d k hlt
          have hb:=num_lt (d.take k) (by rw [List.length_take];omega) (fun c hc=>hall c (List.mem_of_mem_take hc))
          have hdk:Lx.isD (d.getD k 0)=true:=hall _ (by simp [List.getD,hlt])
          have hsub:=u8_sub _ hdk
          rw [d_dec] at hdk
          have hdk:=of_decide_eq_true hdk
          generalize Lx.num (d.take k)=nk at *
          have hcv:IntKind.i64.wrap (((d.getD k 0).toNat - 48:Nat):Int)=(((d.getD k 0).toNat - 48:Nat):Int):=wrap_i64 (by omega) (by omega)
          (repeat' (first|(with_reducible first|(refine hK _ _ ?_;clear hK K)|(refine hA ?_;clear hA hB A B))|((with_reducible refine z25 ?_);intro K hK;(conv=>whnf))|(with_reducible refine z0 ?_)|((first|(with_reducible first|refine NV.eq (hsub) ?_|refine NV.eq (hcv) ?_)|((with_reducible refine NV.i64 ?s ?_);case s=>omega)|((with_reducible refine NIf.decY ?s ?_);case s=>omega)|(with_reducible refine NN.cast ?_)|((with_reducible refine NH.mk ?s ?_);case s=>(and_intros<;>omega)))<;>(conv=>whnf))|(with_reducible first|refine z3 ?_|refine z4 ?_|refine z5 ?_|refine z6 ?_)|((with_reducible refine z29 ?_);intro A B hA hB;(conv=>whnf))|(with_reducible first|refine z1 ?_|refine z2 ?_|refine z9 ?_)))
          refine st_round (k+1) hlt (by omega) ?_ (MemFits.eq rfl)
          repeat (first|exact FitsSl.nil|refine FitsSl.any ?_|refine FitsSl.cons (Fit1.int (by  first | rfl | (rw [hn];omega) | omega)) ?_|refine FitsSl.cons (Fit1.bool rfl) ?_|refine FitsSl.cons (Fit1.str rfl) ?_|refine FitsSl.cons (Fit1.same (by intro h;cases h) (by with_reducible rfl)) ?_)
        · have e:k=d.length:=by omega
          subst e
          rw [List.take_length]
          (repeat' (first|(with_reducible first|(refine hK _ _ ?_;clear hK K)|(refine hB ?_;clear hA hB A B)|(refine hK _ ?_;clear hK K))|((with_reducible refine z25 ?_);intro K hK;(conv=>whnf))|(with_reducible refine z0 ?_)|((first|((with_reducible refine NIf.decN ?s ?_);case s=>omega)|((with_reducible refine NH.mk ?s ?_);case s=>(and_intros<;>first|with_reducible rfl|((with_reducible refine gOnes ?_);rfl)|((with_reducible refine gLen ?_);rfl))))<;>(conv=>whnf))|(with_reducible first|refine z3 ?_|refine z4 ?_|refine z7 ?_|refine z8 ?_)|((with_reducible refine z29 ?_);intro A B hA hB;(conv=>whnf))|(with_reducible first|refine z1 ?_|refine z2 ?_|refine z10 ?_|refine z11 ?_|refine z19 ?_)|((with_reducible refine gR ?_);(refine z31 rfl ?_;intro K hK;(conv=>whnf)))))
          all_goals exact ⟨rfl,MemFits.drop [_] [_]⟩
    · (repeat' (first|(with_reducible first|(refine hK _ _ ?_;clear hK K)|(refine hB ?_;clear hA hB A B)|(refine hK _ ?_;clear hK K))|((with_reducible first|refine z25 ?_|refine z26 ?_);intro K hK;(conv=>whnf))|(with_reducible refine z0 ?_)|((first|((with_reducible refine NIf.decN ?s ?_);case s=>omega)|((with_reducible refine NIf.no ?s ?_);case s=>rfl)|(with_reducible refine NN.a5 ?_)|((with_reducible refine NH.mk ?s ?_);case s=>(and_intros<;>rfl))|((with_reducible refine NCall.isF 98 ?_);refine NCall.subE [0] (hw) rfl (by decide) rfl rfl ?_))<;>(conv=>whnf))|(with_reducible first|refine z3 ?_|refine z4 ?_|refine z5 ?_|refine z6 ?_)|((with_reducible refine z29 ?_);intro A B hA hB;(conv=>whnf))|(with_reducible first|refine z1 ?_|refine z2 ?_)|((with_reducible refine gF ?_);(refine z33 rfl ?_;intro K hK;(conv=>whnf)))|((intro _;skip)<;>(conv=>whnf))))
      all_goals
        refine st_auto (α:=Nat) (fun k=>k≤d.length) (fun k=>[.keep,.keep,.keep,.keep,.keep,.keep,.set (.int .i64 (Lx.num (d.take k))),.drop,.keep,.keep,.keep,.keep,.keep,.keep,.keep,.keep,.keep,.keep,.keep,.keep,.keep,.keep,.keep,.keep,.keep,.keep,.keep,.keep,.keep,.keep,.keep,.set (.int .i64 k),.drop,.drop,.drop,.drop,.drop,.drop,.drop,.drop,.drop,.drop,.drop,.keep,.keep,.keep]) (fun _=>[]) (fun k=>d.length - k) 0 (Nat.zero_le _) ?_ (MemFits.eq rfl) ?_
        · repeat (first|exact FitsSl.nil|refine FitsSl.any ?_|refine FitsSl.cons (Fit1.int (by first | rfl | omega)) ?_|refine FitsSl.cons (Fit1.bool rfl) ?_|refine FitsSl.cons (Fit1.str rfl) ?_|refine FitsSl.cons (Fit1.same (by intro h;cases h) (by with_reducible rfl)) ?_)
        (intro k hk;intro K hK;(conv=>whnf);refine hK _ _ ?_;clear hK K)
        by_cases hlt:k<d.length
        · have hn:=num_take d k hlt
          have hb:=num_lt (d.take k) (by rw [List.length_take];omega) (fun c hc=>hall c (List.mem_of_mem_take hc))
          have hdk:Lx.isD (d.getD k 0)=true:=hall _ (by simp [List.getD,hlt])
          have hsub:=u8_sub _ hdk
          rw [d_dec] at hdk
          have hdk:=of_decide_eq_true hdk
          generalize Lx.num (d.take k)=nk at *
          have hcv:IntKind.i64.wrap (((d.getD k 0).toNat - 48:Nat):Int)=(((d.getD k 0).toNat - 48:Nat):Int):=wrap_i64 (by omega) (by omega)
          (repeat' (first|(with_reducible first|(refine hK _ _ ?_;clear hK K)|(refine hA ?_;clear hA hB A B))|((with_reducible refine z25 ?_);intro K hK;(conv=>whnf))|(with_reducible refine z0 ?_)|((first|(with_reducible first|refine NV.eq (hsub) ?_|refine NV.eq (hcv) ?_)|((with_reducible refine NV.i64 ?s ?_);case s=>omega)|((with_reducible refine NIf.decY ?s ?_);case s=>omega)|(with_reducible refine NN.cast ?_)|((with_reducible refine NH.mk ?s ?_);case s=>(and_intros<;>omega)))<;>(conv=>whnf))|(with_reducible first|refine z3 ?_|refine z4 ?_|refine z5 ?_|refine z6 ?_)|((with_reducible refine z29 ?_);intro A B hA hB;(conv=>whnf))|(with_reducible first|refine z1 ?_|refine z2 ?_|refine z9 ?_)))
          refine st_round (k+1) hlt (by omega) ?_ (MemFits.eq rfl)
          repeat (first|exact FitsSl.nil|refine FitsSl.any ?_|refine FitsSl.cons (Fit1.int (by  first | rfl | (rw [hn];omega) | omega)) ?_|refine FitsSl.cons (Fit1.bool rfl) ?_|refine FitsSl.cons (Fit1.str rfl) ?_|refine FitsSl.cons (Fit1.same (by intro h;cases h) (by with_reducible rfl)) ?_)
        · have e:k=d.length:=by omega
          subst e
          rw [List.take_length]
          (repeat' (first|(with_reducible first|(refine hK _ _ ?_;clear hK K)|(refine hB ?_;clear hA hB A B)|(refine hK _ ?_;clear hK K))|((with_reducible refine z25 ?_);intro K hK;(conv=>whnf))|(with_reducible refine z0 ?_)|((first|((with_reducible refine NIf.decN ?s ?_);case s=>omega)|((with_reducible refine NH.mk ?s ?_);case s=>(and_intros<;>first|with_reducible rfl|((with_reducible refine gOnes ?_);rfl)|((with_reducible refine gLen ?_);rfl))))<;>(conv=>whnf))|(with_reducible first|refine z3 ?_|refine z4 ?_|refine z7 ?_|refine z8 ?_)|((with_reducible refine z29 ?_);intro A B hA hB;(conv=>whnf))|(with_reducible first|refine z1 ?_|refine z2 ?_|refine z10 ?_|refine z11 ?_|refine z19 ?_)|((with_reducible refine gR ?_);(refine z31 rfl ?_;intro K hK;(conv=>whnf)))))
          all_goals exact ⟨rfl,MemFits.drop [_] [_]⟩
  · rw [if_neg h,decide_eq_false h]
    unfold tokAV
    have h':3<d.length∨(1<d.length∧(d.getD 0 0).toNat=48):=by
      by_cases e:3<d.length
      · exact .inl e
      · by_cases e2:1<d.length∧d.getD 0 0=48
        · exact .inr ⟨e2.1,by rw [e2.2];rfl⟩
        · exact (h (fun q=>q.elim e e2)).elim
    (repeat' (first|(with_reducible first|(refine hK _ _ ?_;clear hK K)|(refine hA ?_;clear hA hB A B)|(refine hK _ ?_;clear hK K))|((with_reducible first|refine z25 ?_|refine z26 ?_);intro K hK;(conv=>whnf))|(with_reducible refine z0 ?_)|((first|((with_reducible refine NIf.decY ?s ?_);case s=>first|assumption|omega)|((with_reducible refine NIf.decN ?s ?_);case s=>assumption)|((with_reducible refine NIf.yes ?s ?_);case s=>rfl)|(with_reducible first|refine NIf.dec (fun _=>?_) (fun _=>?_)|refine NN.lit ?_|refine NN.a5 ?_)|((with_reducible refine NH.mk ?s ?_);case s=>(and_intros<;>first|with_reducible rfl|((with_reducible refine gOnes ?_);rfl)|((with_reducible refine gLen ?_);rfl)|omega|rfl))|((with_reducible refine NCall.isF 98 ?_);refine NCall.subE [0] (hw) rfl (by decide) rfl rfl ?_))<;>(conv=>whnf))|(with_reducible first|refine z3 ?_|refine z4 ?_|refine z8 ?_)|((with_reducible refine z29 ?_);intro A B hA hB;(conv=>whnf))|(with_reducible first|refine z1 ?_|refine z2 ?_|refine z12 ?_)|((with_reducible refine gR ?_);(refine z31 rfl ?_;intro K hK;(conv=>whnf)))|((with_reducible refine gF ?_);(refine z33 rfl ?_;intro K hK;(conv=>whnf)))|((intro _;skip)<;>(conv=>whnf))))
    all_goals first
      | exact ⟨rfl,MemFits.drop [_] [_]⟩
      | (exfalso;omega)
end Go.Proofs.YtaojbkphcnailaaDoor
namespace Go.Proofs
open Go.Shelf
def Tryd.lays156_ren:Go.Shelf.Ren:=⟨fun | 156=>43 | 165=>74 | 166=>75 | 169=>76 | 240=>92 | 241=>93 | 276=>115 | 277=>116 | n=>n,fun | 31=>78 | 9=>9 | 3=>3 | 4=>4 | 0=>0 | 20=>20 | 72=>106 | 76=>110 | 70=>103 | 37=>104 | 75=>109 | 127=>123 | 164=>140 | 5=>5 | 80=>112 | n=>n,fun | n=>n⟩
theorem Tryd.lays156:Go.Proofs.Lays.n156 Tryd.prog Tryd.lays156_ren:={
  mixed:=by kernel_rfl
  f156:=Tryd.func43.trans (congrArg some (by kernel_rfl))
  f165:=Tryd.func74.trans (congrArg some (by kernel_rfl))
  f166:=Tryd.func75.trans (congrArg some (by kernel_rfl))
  f169:=Tryd.func76.trans (congrArg some (by kernel_rfl))
  f240:=Tryd.func92.trans (congrArg some (by kernel_rfl))
  f241:=Tryd.func93.trans (congrArg some (by kernel_rfl))
  f276:=Tryd.func115.trans (congrArg some (by kernel_rfl))
  f277:=Tryd.func116.trans (congrArg some (by kernel_rfl))
  t0:=Tryd.underlying0
  a0:=Tryd.isAgg0
  z0:=Tryd.sizeOf0
  v0:=Tryd.zeroValue0
  t3:=Tryd.underlying3
  a3:=Tryd.isAgg3
  z3:=Tryd.sizeOf3
  v3:=Tryd.zeroValue3
  t4:=Tryd.underlying4
  a4:=Tryd.isAgg4
  z4:=Tryd.sizeOf4
  v4:=Tryd.zeroValue4
  t9:=Tryd.underlying9
  a9:=Tryd.isAgg9
  z9:=Tryd.sizeOf9
  v9:=Tryd.zeroValue9
  t20:=Tryd.underlying20
  a20:=Tryd.isAgg20
  z20:=Tryd.sizeOf20
  v20:=Tryd.zeroValue20
  t31:=Tryd.underlying78
  a31:=Tryd.isAgg78
  z31:=Tryd.sizeOf78
  v31:=Tryd.zeroValue78
  t37:=Tryd.underlying104
  a37:=Tryd.isAgg104
  z37:=Tryd.sizeOf104
  v37:=Tryd.zeroValue104
  t70:=Tryd.underlying103
  a70:=Tryd.isAgg103
  z70:=Tryd.sizeOf103
  v70:=Tryd.zeroValue103
  t72:=Tryd.underlying106
  a72:=Tryd.isAgg106
  z72:=Tryd.sizeOf106
  v72:=Tryd.zeroValue106
  t75:=Tryd.underlying109
  a75:=Tryd.isAgg109
  z75:=Tryd.sizeOf109
  v75:=Tryd.zeroValue109
  t76:=Tryd.underlying110
  a76:=Tryd.isAgg110
  z76:=Tryd.sizeOf110
  v76:=Tryd.zeroValue110
  t127:=Tryd.underlying123
  a127:=Tryd.isAgg123
  z127:=Tryd.sizeOf123
  v127:=Tryd.zeroValue123
  t164:=Tryd.underlying140
  a164:=Tryd.isAgg140
  z164:=Tryd.sizeOf140
  v164:=Tryd.zeroValue140 }
theorem Tryd.Builder_Extra_156:Builder.Extra Tryd.prog Tryd.lays156_ren:={
  sizeBuilder:=by kernel_rfl
  liesBuilder:=by kernel_rfl
  t5:=Tryd.underlying5
  a5:=Tryd.isAgg5
  z5:=Tryd.sizeOf5
  v5:=Tryd.zeroValue5
  infoByte:=by kernel_rfl
  cellsByte:=by kernel_rfl
  sizeByte:=by kernel_rfl
  neB5:=by decide }
open Go.RowKit in
theorem Tryd.strings_Join_none (a:Option Addr) (c:Nat) (sep:ByteArray) (w:World) :
    Calls Tryd.prog 43 #[.slice a 0 c,.string sep] w fun e w'=>e = .returned (.string ⟨#[]⟩)∧w'=w:=Any.strings_Join_none Tryd.lays156 Tryd.Builder_Extra_156 a c sep w
open Go.RowKit in
theorem Tryd.strings_Join (bk o c:Nat) (xs:List ByteArray) (sep:ByteArray) (w:World) (hcells:∀ (j:Nat) x,xs[j]?=some x→w.cell? ⟨bk,o+j,none⟩=some (.string x)) (hbk:bk<w.heap.size) (hN:xs.length≤140737488355328) (hcap:xs.length≤c) (hlen:(Lib.join (xs.map (·.data.toList)) sep.data.toList).length≤140737488355328) :
    Calls Tryd.prog 43 #[.slice (some ⟨bk,o,none⟩) xs.length c,.string sep] w fun e w'=>e = .returned (.string ⟨(Lib.join (xs.map (·.data.toList)) sep.data.toList).toArray⟩)∧Below w.heap.size w w':=Any.strings_Join Tryd.lays156 Tryd.Builder_Extra_156 bk o c xs sep w hcells hbk hN hcap hlen
def Tryd.lays137_ren:Go.Shelf.Ren:=⟨fun | 137=>105 | 217=>121 | 266=>133 | n=>n,fun | 9=>9 | 5=>5 | 3=>3 | n=>n,fun | n=>n⟩
theorem Tryd.lays137:Go.Proofs.Lays.n137 Tryd.prog Tryd.lays137_ren:={
  mixed:=by kernel_rfl
  f137:=Tryd.func105.trans (congrArg some (by kernel_rfl))
  f217:=Tryd.func121.trans (congrArg some (by kernel_rfl))
  f266:=Tryd.func133.trans (congrArg some (by kernel_rfl))
  t3:=Tryd.underlying3
  a3:=Tryd.isAgg3
  z3:=Tryd.sizeOf3
  v3:=Tryd.zeroValue3
  t5:=Tryd.underlying5
  a5:=Tryd.isAgg5
  z5:=Tryd.sizeOf5
  v5:=Tryd.zeroValue5
  t9:=Tryd.underlying9
  a9:=Tryd.isAgg9
  z9:=Tryd.sizeOf9
  v9:=Tryd.zeroValue9 }
open Go.RowKit in
theorem Tryd.strings_IndexByte (s:ByteArray) (c:Int) (w:World) :
    Calls Tryd.prog 105 #[.string s,.int .u8 c] w fun e w'=>e = .returned (.int .i64 (Lib.indexByte s.data.toList c.toNat.toUInt8))∧w'=w:=Any.strings_IndexByte Tryd.lays137 s c w
def Tryd.laysM171_ren:Go.Shelf.Ren:=⟨fun | 171=>42 | 243=>73 | 246=>91 | 283=>111 | 284=>112 | 285=>113 | 286=>114 | 129=>125 | 317=>124 | 318=>126 | 319=>127 | 320=>128 | 337=>134 | 338=>135 | n=>n,fun | 3=>3 | 9=>9 | 2=>2 | 4=>4 | 171=>134 | 0=>0 | 53=>135 | 37=>104 | 5=>5 | 173=>138 | 212=>146 | 51=>147 | 20=>20 | 213=>148 | 46=>150 | 232=>155 | 233=>156 | n=>n,fun | 17=>0 | 18=>2 | 19=>3 | n=>n⟩
theorem Tryd.laysM171:Go.Proofs.LaysM.n171 Tryd.prog Tryd.laysM171_ren:={
  mixed:=by kernel_rfl
  f129:=Tryd.func125.trans (congrArg some (by kernel_rfl))
  f171:=Tryd.func42.trans (congrArg some (by kernel_rfl))
  f243:=Tryd.func73.trans (congrArg some (by kernel_rfl))
  f246:=Tryd.func91.trans (congrArg some (by kernel_rfl))
  f283:=Tryd.func111.trans (congrArg some (by kernel_rfl))
  f284:=Tryd.func112.trans (congrArg some (by kernel_rfl))
  f285:=Tryd.func113.trans (congrArg some (by kernel_rfl))
  f286:=Tryd.func114.trans (congrArg some (by kernel_rfl))
  f317:=Tryd.func124.trans (congrArg some (by kernel_rfl))
  f318:=Tryd.func126.trans (congrArg some (by kernel_rfl))
  f319:=Tryd.func127.trans (congrArg some (by kernel_rfl))
  f320:=Tryd.func128.trans (congrArg some (by kernel_rfl))
  f337:=Tryd.func134.trans (congrArg some (by kernel_rfl))
  f338:=Tryd.func135.trans (congrArg some (by kernel_rfl))
  t0:=Tryd.underlying0
  a0:=Tryd.isAgg0
  z0:=Tryd.sizeOf0
  v0:=Tryd.zeroValue0
  t2:=Tryd.underlying2
  a2:=Tryd.isAgg2
  z2:=Tryd.sizeOf2
  v2:=Tryd.zeroValue2
  t3:=Tryd.underlying3
  a3:=Tryd.isAgg3
  z3:=Tryd.sizeOf3
  v3:=Tryd.zeroValue3
  t4:=Tryd.underlying4
  a4:=Tryd.isAgg4
  z4:=Tryd.sizeOf4
  v4:=Tryd.zeroValue4
  t5:=Tryd.underlying5
  a5:=Tryd.isAgg5
  z5:=Tryd.sizeOf5
  v5:=Tryd.zeroValue5
  t9:=Tryd.underlying9
  a9:=Tryd.isAgg9
  z9:=Tryd.sizeOf9
  v9:=Tryd.zeroValue9
  t20:=Tryd.underlying20
  a20:=Tryd.isAgg20
  z20:=Tryd.sizeOf20
  v20:=Tryd.zeroValue20
  t37:=Tryd.underlying104
  a37:=Tryd.isAgg104
  z37:=Tryd.sizeOf104
  v37:=Tryd.zeroValue104
  t46:=Tryd.underlying150
  a46:=Tryd.isAgg150
  z46:=Tryd.sizeOf150
  v46:=Tryd.zeroValue150
  t51:=Tryd.underlying147
  a51:=Tryd.isAgg147
  z51:=Tryd.sizeOf147
  v51:=Tryd.zeroValue147
  t53:=Tryd.underlying135
  a53:=Tryd.isAgg135
  z53:=Tryd.sizeOf135
  v53:=Tryd.zeroValue135
  t171:=Tryd.underlying134
  a171:=Tryd.isAgg134
  z171:=Tryd.sizeOf134
  v171:=Tryd.zeroValue134
  t173:=Tryd.underlying138
  a173:=Tryd.isAgg138
  z173:=Tryd.sizeOf138
  v173:=Tryd.zeroValue138
  t212:=Tryd.underlying146
  a212:=Tryd.isAgg146
  z212:=Tryd.sizeOf146
  v212:=Tryd.zeroValue146
  t213:=Tryd.underlying148
  a213:=Tryd.isAgg148
  z213:=Tryd.sizeOf148
  t232:=Tryd.underlying155
  a232:=Tryd.isAgg155
  z232:=Tryd.sizeOf155
  v232:=Tryd.zeroValue155
  t233:=Tryd.underlying156
  a233:=Tryd.isAgg156
  z233:=Tryd.sizeOf156
  v233:=Tryd.zeroValue156
  g17:=by kernel_rfl
  g18:=by kernel_rfl
  g19:=by kernel_rfl
  i0:=by kernel_rfl
  i2:=by kernel_rfl
  i3:=by kernel_rfl
  i4:=by kernel_rfl
  i5:=by kernel_rfl
  i9:=by kernel_rfl
  i20:=by kernel_rfl
  i37:=by kernel_rfl
  i46:=by kernel_rfl
  i51:=by kernel_rfl
  i53:=by kernel_rfl
  i171:=by kernel_rfl
  i173:=by kernel_rfl
  i212:=by kernel_rfl
  i232:=by kernel_rfl
  i233:=by kernel_rfl
  m17:=by kernel_rfl
  m18:=by kernel_rfl
  m19:=by kernel_rfl }
open Go.RowKit Go.Sort Go.Lib in
theorem Tryd.strconv_Itoa (n : Int) (h0 : -9223372036854775808 ≤ n) (h1 : n ≤ 9223372036854775807) (w : World) (htab : Lib.TabIs Tryd.prog w "internal/strconv.uint64pow10" .u64 Lib.pow10Tab) :
    Calls Tryd.prog 42 #[.int .i64 n] w fun e w'=>e = .returned (.string ⟨(Lib.itoa n).toArray⟩)∧∃ k os,w'=grow (w.drewN k) os:=Any.strconv_Itoa Tryd.laysM171 n h0 h1 w htab
end Go.Proofs
