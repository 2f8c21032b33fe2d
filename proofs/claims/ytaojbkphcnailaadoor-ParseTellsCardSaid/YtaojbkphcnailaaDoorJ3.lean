import Derived.Test.YtaojbkphcnailaaDoorJ2
import Derived.Test.YtaojbkphcnailaaDoorProg
namespace Go.Proofs.YtaojbkphcnailaaDoor
open Go.Sx
set_option maxRecDepth 20000
set_option linter.unusedSimpArgs false
set_option linter.unusedVariables false
set_option linter.unusedVariables false
namespace Lx
theorem tw_idx (p:UInt8→Bool):∀ (t:List UInt8),(∀ k,k<(t.takeWhile p).length→k<t.length∧p (t.getD k 0)=true)∧((t.takeWhile p).length=t.length∨((t.takeWhile p).length<t.length∧p (t.getD (t.takeWhile p).length 0)=false))
  | []=>⟨fun k h=>by simp at h,.inl rfl⟩
  | c::t=>by
    obtain ⟨h1,h2⟩:=tw_idx p t
    by_cases hc:p c=true
    · rw [List.takeWhile_cons_of_pos hc]
      refine ⟨fun k hk=>?_,?_⟩
      · cases k with
        | zero=>exact ⟨by simp,by simpa using hc⟩
        | succ k =>
          simp only [List.length_cons] at hk ⊢
          obtain ⟨a,b⟩:=h1 k (by omega)
          exact ⟨by omega,by simpa using b⟩
      · simp only [List.length_cons]
        rcases h2 with h | ⟨h,h'⟩
        · exact .inl (by omega)
        · exact .inr ⟨by omega,by simpa using h'⟩
    · rw [List.takeWhile_cons_of_neg hc]
      exact ⟨fun k hk=>by simp at hk,.inr ⟨by simp,by simpa using hc⟩⟩
theorem getD_drop (l:List UInt8) (i k:Nat):(l.drop i).getD k 0=l.getD (i+k) 0:=by simp [List.getD]
def wl (p:UInt8→Bool) (s:List UInt8) (i:Nat):Nat:=((s.drop i).takeWhile p).length
theorem wl_le (p:UInt8→Bool) (s:List UInt8) (i:Nat) (hi:i≤s.length):i+wl p s i≤s.length:=by
  have:=congrArg List.length (List.takeWhile_append_dropWhile (p:=p) (l:=s.drop i))
  simp only [List.length_append,List.length_drop] at this
  unfold wl
  omega
end Lx
def LB (a:Addr) (s:List UInt8) (i:Nat):Blk:=⟨a,[.str s,.int .i64 i],.var 118⟩
set_option maxHeartbeats 1000000 in
theorem while_c (f:FuncId) (p:UInt8→Bool) (hf:∀ c:UInt8,NCall Tryd.prog f [.int .u8 c.toNat] [] fun r _=>r = .bool (p c)) (a:Addr) (tx:List UInt8) (i:Nat) (hi:i≤tx.length) (hs:tx.length≤10000) :
    NCall Tryd.prog 98 [.ptr 0 a 0,.fn f [] []] [LB a tx i] fun r m=>r = .str ((tx.drop i).takeWhile p)∧m=[LB a tx (i+Lx.wl p tx i)]:=by
  obtain ⟨h1,h2⟩:=Lx.tw_idx p (tx.drop i)
  have hle:=Lx.wl_le p tx i hi
  have ht:(tx.drop i).take (Lx.wl p tx i)=(tx.drop i).takeWhile p:=(Lx.tw_take _ _).1
  have h1':∀ j,i≤j→j<i+Lx.wl p tx i→p (tx.getD j 0)=true:=fun j hj hj2=>by
    have:=(h1 (j - i) (by unfold Lx.wl at hj2;omega)).2
    rw [Lx.getD_drop,show i+(j - i)=j by omega] at this
    exact this
  have h2':i+Lx.wl p tx i=tx.length∨(i+Lx.wl p tx i<tx.length∧p (tx.getD (i+Lx.wl p tx i) 0)=false):=by
    rcases h2 with h | ⟨h,h'⟩
    · left;rw [List.length_drop] at h;unfold Lx.wl;omega
    · right
      rw [List.length_drop] at h
      rw [Lx.getD_drop] at h'
      exact ⟨by unfold Lx.wl;omega,h'⟩
  clear h1 h2
  generalize Lx.wl p tx i=w at *
  generalize (tx.drop i).takeWhile p=res at *
  refine ncall_of Tryd.func98 rfl (by decide) ?_
  unfold LB
  (repeat' (first|(with_reducible first|(refine hK _ _ ?_;clear hK K)|(refine hK _ ?_;clear hK K))|((with_reducible refine z25 ?_);intro K hK;(conv=>whnf))|(with_reducible refine z0 ?_)|((first|(with_reducible refine NN.a5 ?_)|((with_reducible refine NH.mk ?s ?_);case s=>(and_intros<;>with_reducible rfl)))<;>(conv=>whnf))|(with_reducible first|refine z3 ?_|refine z4 ?_|refine z5 ?_|refine z1 ?_|refine z2 ?_)|((with_reducible refine gF ?_);(refine z33 rfl ?_;intro K hK;(conv=>whnf)))))
  refine st_auto (α:=Nat) (fun j=>i≤j∧j≤i+w) (fun j=>[.keep,.keep,.keep,.keep,.keep,.keep,.keep,.keep,.keep,.keep,.drop,.drop,.drop,.drop,.drop,.drop,.drop,.drop,.drop,.drop,.drop,.drop,.drop,.drop,.drop,.drop,.drop,.drop,.drop,.drop,.drop,.drop,.drop,.drop,.drop,.drop,.drop,.drop,.drop,.drop,.keep,.keep,.keep,.keep,.keep,.keep,.keep,.keep,.keep,.keep]) (fun j=>[.cells [.str tx,.int .i64 j]]) (fun j=>i+w - j) i ⟨Nat.le_refl _,by omega⟩ ?_ ?_ ?_
  · repeat (first|exact FitsSl.nil|refine FitsSl.any ?_|refine FitsSl.cons (Fit1.int (by first | rfl | omega)) ?_|refine FitsSl.cons (Fit1.str rfl) ?_|refine FitsSl.cons (Fit1.same (by intro h;cases h) (by with_reducible rfl)) ?_)
  · exact MemFits.eq rfl
  (intro j ⟨hj1,hj2⟩;intro K hK;(conv=>whnf);refine hK _ _ ?_;clear hK K)
  by_cases hlt:j<i+w
  · have hp:=h1' j hj1 hlt
    have hc:=hf (tx.getD j 0)
    rw [hp] at hc
    (repeat' (first|(with_reducible first|(refine hK _ _ ?_;clear hK K)|(refine hA ?_;clear hA hB A B))|((with_reducible refine z25 ?_);intro K hK;(conv=>whnf))|(with_reducible refine z0 ?_)|((with_reducible first|refine z27 ?_|refine z28 ?_);intro K hK;(conv=>whnf))|(with_reducible refine z24 ?_)|((first|((with_reducible refine NV.i64 ?s ?_);case s=>omega)|((with_reducible refine NIf.decY ?s ?_);case s=>omega)|((with_reducible refine NIf.yes ?s ?_);case s=>rfl)|(with_reducible first|refine NN.cast ?_|refine NN.a5 ?_)|((with_reducible refine NH.mk ?s ?_);case s=>(and_intros<;>first|with_reducible rfl|((with_reducible refine gOnes ?_);rfl)|((with_reducible refine gLen ?_);rfl)|omega))|((with_reducible refine NCallQ.isF f ?_);refine NCallQ.pureEq (hc) ?_))<;>(conv=>whnf))|((with_reducible refine gX ?_);(first|(with_reducible first|refine z3 ?_|refine z4 ?_|refine z5 ?_|refine z6 ?_)|((with_reducible refine z29 ?_);intro A B hA hB;(conv=>whnf))|refine z34 (by kernel_rfl) (by kernel_rfl) ?_))|(with_reducible first|refine z1 ?_|refine z2 ?_|refine z9 ?_)))
    refine st_round (j+1) ⟨by omega,by omega⟩ (by omega) ?_ (MemFits.eq rfl)
    repeat (first|exact FitsSl.nil|refine FitsSl.any ?_|refine FitsSl.cons (Fit1.int (by first | rfl | omega)) ?_|refine FitsSl.cons (Fit1.str rfl) ?_|refine FitsSl.cons (Fit1.same (by intro h;cases h) (by with_reducible rfl)) ?_)
  · have e:j=i+w:=by omega
    subst e
    have e2:i+w - i=w:=by omega
    have hns:(tx.drop i).take (i+w - i)=res:=by rw [e2,ht]
    rcases h2' with h | ⟨h,hp⟩
    · (repeat' (first|(with_reducible first|(refine hK _ _ ?_;clear hK K)|(refine hB ?_;clear hA hB A B)|(refine hK _ ?_;clear hK K))|((with_reducible first|refine z27 ?_|refine z28 ?_);intro K hK;(conv=>whnf))|(with_reducible refine z24 ?_)|((first|((with_reducible refine NIf.decN ?s ?_);case s=>omega)|((with_reducible refine NIf.no ?s ?_);case s=>rfl)|(with_reducible first|refine NN.cast ?_|refine NN.a5 ?_)|((with_reducible refine NH.mk ?s ?_);case s=>(and_intros<;>first|with_reducible rfl|omega))|(with_reducible refine NS.eq (hns) ?_))<;>(conv=>whnf))|((with_reducible refine gX ?_);(first|(with_reducible first|refine z3 ?_|refine z7 ?_|refine z8 ?_)|((with_reducible refine z29 ?_);intro A B hA hB;(conv=>whnf))|refine z34 (by kernel_rfl) (by kernel_rfl) ?_))|(with_reducible first|refine z1 ?_|refine z2 ?_|refine z10 ?_|refine z11 ?_|refine z19 ?_)|((with_reducible refine gR ?_);(refine z31 rfl ?_;intro K hK;(conv=>whnf)))))
      all_goals exact ⟨rfl,rfl⟩
    · have hc:=hf (tx.getD (i+w) 0)
      rw [hp] at hc
      (repeat' (first|(with_reducible first|(refine hK _ _ ?_;clear hK K)|(refine hB ?_;clear hA hB A B)|(refine hK _ ?_;clear hK K))|((with_reducible first|refine z27 ?_|refine z28 ?_);intro K hK;(conv=>whnf))|(with_reducible refine z24 ?_)|((first|((with_reducible refine NIf.decY ?s ?_);case s=>omega)|((with_reducible refine NIf.no ?s ?_);case s=>rfl)|(with_reducible first|refine NN.cast ?_|refine NN.a5 ?_)|((with_reducible refine NH.mk ?s ?_);case s=>(and_intros<;>first|with_reducible rfl|omega))|((with_reducible refine NCallQ.isF f ?_);refine NCallQ.pureEq (hc) ?_)|(with_reducible refine NS.eq (hns) ?_))<;>(conv=>whnf))|((with_reducible refine gX ?_);(first|(with_reducible first|refine z3 ?_|refine z7 ?_|refine z8 ?_)|((with_reducible refine z29 ?_);intro A B hA hB;(conv=>whnf))|refine z34 (by kernel_rfl) (by kernel_rfl) ?_))|(with_reducible first|refine z1 ?_|refine z2 ?_|refine z10 ?_|refine z11 ?_|refine z19 ?_)|((with_reducible refine gR ?_);(refine z31 rfl ?_;intro K hK;(conv=>whnf)))))
      all_goals exact ⟨rfl,rfl⟩
theorem boolT {p:Prop} {_:Decidable p} (h:p):AV.bool true = .bool (decide p):=by rw [decide_eq_true h]
theorem boolF {p:Prop} {_:Decidable p} (h:¬ p):AV.bool false = .bool (decide p):=by rw [decide_eq_false h]
theorem boolIff {x:Bool} {p:Prop} {_:Decidable p} (h:x=true↔p):AV.bool x = .bool (decide p):=by
  cases x with
  | true=>exact boolT (h.1 rfl)
  | false=>exact boolF fun hp=>by cases h.2 hp
theorem sp_dec (c:UInt8):Lx.isSp c=decide (c.toNat=32∨c.toNat=9∨c.toNat=10):=by
  rw [Bool.eq_iff_iff];unfold Lx.isSp
  simp only [Bool.or_eq_true,beq_iff_eq,decide_eq_true_eq,← UInt8.toNat_inj,or_assoc]
  rfl
theorem l_dec (c:UInt8):Lx.isL c=decide (97≤c.toNat∧c.toNat≤122):=by
  rw [Bool.eq_iff_iff];unfold Lx.isL
  simp only [Bool.and_eq_true,decide_eq_true_eq]
theorem d_dec (c:UInt8):Lx.isD c=decide (48≤c.toNat∧c.toNat≤57):=by
  rw [Bool.eq_iff_iff];unfold Lx.isD
  simp only [Bool.and_eq_true,decide_eq_true_eq]
theorem nl_dec (c:UInt8):Lx.notNl c=decide (c.toNat≠10):=by
  rw [Bool.eq_iff_iff];unfold Lx.notNl
  simp only [Bool.not_eq_true',beq_eq_false_iff_ne,decide_eq_true_eq,ne_eq,← UInt8.toNat_inj]
  rfl
theorem space_c (c:UInt8):NCall Tryd.prog 99 [.int .u8 c.toNat] [] fun r _=>r = .bool (Lx.isSp c):=by
  rw [sp_dec]
  refine ncall_of Tryd.func99 rfl (by decide) ?_
  (repeat' (first|(with_reducible first|(refine hK _ _ ?_;clear hK K)|(refine hK _ ?_;clear hK K))|((with_reducible first|refine z25 ?_|refine z26 ?_);intro K hK;(conv=>whnf))|(with_reducible refine z0 ?_)|((first|((with_reducible refine NIf.decY ?s ?_);case s=>assumption)|((with_reducible refine NIf.decN ?s ?_);case s=>assumption)|((with_reducible refine NIf.yes ?s ?_);case s=>rfl)|(with_reducible refine NIf.dec (fun _=>?_) (fun _=>?_)))<;>(conv=>whnf))|(with_reducible first|refine z3 ?_|refine z4 ?_|refine z8 ?_|refine z1 ?_|refine z2 ?_)|((with_reducible refine gR ?_);(refine z31 rfl ?_;intro K hK;(conv=>whnf)))|((with_reducible refine gF ?_);(refine z33 rfl ?_;intro K hK;(conv=>whnf)))))
  all_goals first
    | exact boolT (by omega)
    | exact boolF (by omega)
    | exact boolIff (by simp only [decide_eq_true_eq];omega)
theorem letter_c (c:UInt8):NCall Tryd.prog 101 [.int .u8 c.toNat] [] fun r _=>r = .bool (Lx.isL c):=by
  rw [l_dec]
  refine ncall_of Tryd.func101 rfl (by decide) ?_
  (repeat' (first|(with_reducible first|(refine hK _ _ ?_;clear hK K)|(refine hK _ ?_;clear hK K))|((with_reducible first|refine z25 ?_|refine z26 ?_);intro K hK;(conv=>whnf))|(with_reducible refine z0 ?_)|((first|((with_reducible refine NIf.decY ?s ?_);case s=>assumption)|((with_reducible refine NIf.decN ?s ?_);case s=>assumption)|(with_reducible refine NIf.dec (fun _=>?_) (fun _=>?_)))<;>(conv=>whnf))|(with_reducible first|refine z3 ?_|refine z4 ?_|refine z8 ?_|refine z1 ?_|refine z2 ?_)|((with_reducible refine gR ?_);(refine z31 rfl ?_;intro K hK;(conv=>whnf)))|((with_reducible refine gF ?_);(refine z33 rfl ?_;intro K hK;(conv=>whnf)))))
  all_goals first
    | exact boolT (by omega)
    | exact boolF (by omega)
    | exact boolIff (by simp only [decide_eq_true_eq];omega)
theorem digit_c (c:UInt8):NCall Tryd.prog 102 [.int .u8 c.toNat] [] fun r _=>r = .bool (Lx.isD c):=by
  rw [d_dec]
  refine ncall_of Tryd.func102 rfl (by decide) ?_
  (repeat' (first|(with_reducible first|(refine hK _ _ ?_;clear hK K)|(refine hK _ ?_;clear hK K))|((with_reducible first|refine z25 ?_|refine z26 ?_);intro K hK;(conv=>whnf))|(with_reducible refine z0 ?_)|((first|((with_reducible refine NIf.decY ?s ?_);case s=>assumption)|((with_reducible refine NIf.decN ?s ?_);case s=>assumption)|(with_reducible refine NIf.dec (fun _=>?_) (fun _=>?_)))<;>(conv=>whnf))|(with_reducible first|refine z3 ?_|refine z4 ?_|refine z8 ?_|refine z1 ?_|refine z2 ?_)|((with_reducible refine gR ?_);(refine z31 rfl ?_;intro K hK;(conv=>whnf)))|((with_reducible refine gF ?_);(refine z33 rfl ?_;intro K hK;(conv=>whnf)))))
  all_goals first
    | exact boolT (by omega)
    | exact boolF (by omega)
    | exact boolIff (by simp only [decide_eq_true_eq];omega)
theorem notnl_c (c:UInt8):NCall Tryd.prog 100 [.int .u8 c.toNat] [] fun r _=>r = .bool (Lx.notNl c):=by
  rw [nl_dec]
  refine ncall_of Tryd.func100 rfl (by decide) ?_
  (repeat' (first|(with_reducible first|(refine hK _ _ ?_;clear hK K)|(refine hK _ ?_;clear hK K))|((with_reducible refine z25 ?_);intro K hK;(conv=>whnf))|(with_reducible first|refine z0 ?_|refine z3 ?_|refine z4 ?_|refine z8 ?_|refine z1 ?_|refine z2 ?_)|((with_reducible refine gR ?_);(refine z31 rfl ?_;intro K hK;(conv=>whnf)))|((with_reducible refine gF ?_);(refine z33 rfl ?_;intro K hK;(conv=>whnf)))))
  all_goals first
    | exact boolT (by omega)
    | exact boolF (by omega)
    | exact boolIff (by simp only [Bool.not_eq_true',decide_eq_false_iff_not];omega)
end Go.Proofs.YtaojbkphcnailaaDoor
namespace Go.Proofs.YtaojbkphcnailaaDoor
open Go.Sx
set_option maxRecDepth 20000
set_option linter.unusedSimpArgs false
set_option linter.unusedVariables false
set_option linter.unusedVariables false
namespace Lx
def sk (tx:List UInt8) (i:Nat):Nat:=tx.length - (skip (tx.drop i)).length
theorem drop_wl (p:UInt8→Bool) (tx:List UInt8) (i:Nat):(tx.drop i).dropWhile p=tx.drop (i+wl p tx i):=by
  have:=(tw_take p (tx.drop i)).2
  rw [List.drop_drop] at this
  exact this.symm
theorem drop_getD (tx:List UInt8) (i:Nat) (hi:i<tx.length):tx.drop i=tx.getD i 0::tx.drop (i+1):=by
  rw [List.drop_eq_getElem_cons hi]
  simp [List.getD,hi]
end Lx
set_option maxHeartbeats 1000000 in
theorem skip_c (a:Addr) (tx:List UInt8) (i:Nat) (hi:i≤tx.length) (hs:tx.length≤10000) :
    NCall Tryd.prog 82 [.ptr 0 a 0] [LB a tx i] fun r m=>r = .tup []∧m=[LB a tx (Lx.sk tx i)]:=by
  refine ncall_of Tryd.func82 rfl (by decide) ?_
  (repeat' (first|(with_reducible first|(refine hK _ ?_;clear hK K)|refine z5 ?_)|((with_reducible refine gF ?_);(refine z33 rfl ?_;intro K hK;(conv=>whnf)))))
  refine st_auto (α:=Nat) (fun j=>j≤tx.length∧Lx.skip (tx.drop j)=Lx.skip (tx.drop i)) (fun j=>[.keep,.keep,.drop,.drop,.drop,.drop,.drop,.drop,.drop,.drop,.drop,.drop,.drop,.drop,.drop,.drop,.drop,.drop,.drop,.drop,.drop,.drop,.drop,.drop,.drop,.drop,.drop,.drop]) (fun j=>[.set (LB a tx j)]) (fun j=>tx.length - j) i ⟨hi,rfl⟩ ?_ ?_ ?_
  · repeat (first|exact FitsSl.nil|refine FitsSl.any ?_|refine FitsSl.cons (Fit1.same (by intro h;cases h) (by with_reducible rfl)) ?_)
  · exact MemFits.eq rfl
  (intro j ⟨hj,hjs⟩;intro K hK;(conv=>whnf);refine hK _ _ ?_;clear hK K)
  have hw1:=while_c 99 Lx.isSp space_c a tx j hj hs
  have hle:=Lx.wl_le Lx.isSp tx j hj
  have hd:=Lx.drop_wl Lx.isSp tx j
  have hj1:j≤j+Lx.wl Lx.isSp tx j:=Nat.le_add_right _ _
  generalize j+Lx.wl Lx.isSp tx j=j1 at *
  by_cases h1:j1=tx.length
  · have e:Lx.sk tx i=j1:=by
      unfold Lx.sk
      rw [← hjs,Lx.skip_nil (by rw [hd,h1];simp)]
      simp [h1]
    rw [e]
    (repeat' (first|(with_reducible first|(refine hK _ _ ?_;clear hK K)|(refine hA ?_;clear hA hB A B)|(refine hK _ ?_;clear hK K))|((with_reducible refine z25 ?_);intro K hK;(conv=>whnf))|(with_reducible refine z0 ?_)|((with_reducible first|refine z27 ?_|refine z28 ?_);intro K hK;(conv=>whnf))|(with_reducible refine z24 ?_)|((first|((with_reducible refine NIf.decY ?s ?_);case s=>omega)|((with_reducible refine NIf.yes ?s ?_);case s=>rfl)|(with_reducible refine NN.a5 ?_)|((with_reducible refine NH.mk ?s ?_);case s=>(and_intros<;>rfl))|((with_reducible refine NCall.isF 98 ?_);refine NCall.subE [0] (hw1) rfl (by decide) rfl rfl ?_))<;>(conv=>whnf))|((with_reducible refine gX ?_);(first|(with_reducible first|refine z3 ?_|refine z4 ?_|refine z5 ?_|refine z8 ?_)|((with_reducible refine z29 ?_);intro A B hA hB;(conv=>whnf))|refine z34 (by kernel_rfl) (by kernel_rfl) ?_))|(with_reducible first|refine z1 ?_|refine z2 ?_|refine z12 ?_|refine z13 ?_|refine z20 ?_)|((with_reducible refine gR ?_);(refine z31 rfl ?_;intro K hK;(conv=>whnf)))))
    all_goals exact ⟨rfl,rfl⟩
  · have hlt:j1<tx.length:=by omega
    have hg:=Lx.drop_getD tx j1 hlt
    by_cases h2:(tx.getD j1 0)=35
    · have hw2:=while_c 100 Lx.notNl notnl_c a tx j1 (by omega) hs
      have hle2:=Lx.wl_le Lx.notNl tx j1 (by omega)
      have hd2:=Lx.drop_wl Lx.notNl tx j1
      have hn:(tx.getD j1 0).toNat=35:=by rw [h2];rfl
      have hpos:j1<j1+Lx.wl Lx.notNl tx j1:=by
        unfold Lx.wl
        rw [hg,h2,List.takeWhile_cons_of_pos (by decide)]
        simp
      have hst:Lx.skip (tx.drop (j1+Lx.wl Lx.notNl tx j1))=Lx.skip (tx.drop i):=by
        rw [← hjs,Lx.skip_cons (hd.trans hg),if_pos h2,← hd2,hg,h2,List.dropWhile_cons_of_pos (by decide)]
      generalize j1+Lx.wl Lx.notNl tx j1=j2 at *
      (repeat' (first|(with_reducible first|(refine hK _ _ ?_;clear hK K)|(refine hB ?_;clear hA hB A B))|((with_reducible refine z25 ?_);intro K hK;(conv=>whnf))|(with_reducible refine z0 ?_)|((with_reducible first|refine z27 ?_|refine z28 ?_);intro K hK;(conv=>whnf))|(with_reducible refine z24 ?_)|((first|with_reducible refine NIf.not_ ?_|((with_reducible refine NIf.decY ?s ?_);case s=>omega)|((with_reducible refine NIf.decN ?s ?_);case s=>omega)|(with_reducible first|refine NN.cast ?_|refine NN.a5 ?_)|((with_reducible refine NH.mk ?s ?_);case s=>(and_intros<;>first|omega|rfl))|((with_reducible refine NCall.isF 98 ?_);refine NCall.subE [0] (hw1) rfl (by decide) rfl rfl ?_)|((with_reducible refine NCall.isF 98 ?_);refine NCall.subE [0] (hw2) rfl (by decide) rfl rfl ?_))<;>(conv=>whnf))|((with_reducible refine gX ?_);(first|(with_reducible first|refine z3 ?_|refine z4 ?_|refine z5 ?_|refine z6 ?_)|((with_reducible refine z29 ?_);intro A B hA hB;(conv=>whnf))|refine z34 (by kernel_rfl) (by kernel_rfl) ?_))|(with_reducible first|refine z1 ?_|refine z2 ?_|refine z9 ?_)))
      all_goals first
        | (refine st_round j2 ⟨hle2,hst⟩ (by omega) ?_ (MemFits.eq rfl)
           repeat (first|exact FitsSl.nil|refine FitsSl.any ?_|refine FitsSl.cons (Fit1.same (by intro h;cases h) (by with_reducible rfl)) ?_)
          )
    · have hn:(tx.getD j1 0).toNat≠35:=fun e=>h2 (UInt8.toNat_inj.1 (by rw [e];rfl))
      have e:Lx.sk tx i=j1:=by
        unfold Lx.sk
        rw [← hjs,Lx.skip_cons (hd.trans hg),if_neg h2,← hg,List.length_drop]
        omega
      rw [e]
      (repeat' (first|(with_reducible first|(refine hK _ _ ?_;clear hK K)|(refine hA ?_;clear hA hB A B)|(refine hK _ ?_;clear hK K))|((with_reducible refine z25 ?_);intro K hK;(conv=>whnf))|(with_reducible refine z0 ?_)|((with_reducible first|refine z27 ?_|refine z28 ?_);intro K hK;(conv=>whnf))|(with_reducible refine z24 ?_)|((first|with_reducible refine NIf.not_ ?_|((with_reducible refine NIf.decN ?s ?_);case s=>omega)|(with_reducible first|refine NN.cast ?_|refine NN.a5 ?_)|((with_reducible refine NH.mk ?s ?_);case s=>(and_intros<;>first|omega|rfl))|((with_reducible refine NCall.isF 98 ?_);refine NCall.subE [0] (hw1) rfl (by decide) rfl rfl ?_))<;>(conv=>whnf))|((with_reducible refine gX ?_);(first|(with_reducible first|refine z3 ?_|refine z4 ?_|refine z5 ?_|refine z8 ?_)|((with_reducible refine z29 ?_);intro A B hA hB;(conv=>whnf))|refine z34 (by kernel_rfl) (by kernel_rfl) ?_))|(with_reducible first|refine z1 ?_|refine z2 ?_|refine z12 ?_|refine z13 ?_|refine z20 ?_)|((with_reducible refine gR ?_);(refine z31 rfl ?_;intro K hK;(conv=>whnf)))))
      all_goals exact ⟨rfl,rfl⟩
def tokAV (k n:Int) (t:List UInt8) (at_:Int):AV:=.agg [.int .i64 k,.int .i64 n,.str t,.int .i64 at_]
theorem u8_sub (c:UInt8) (h:Lx.isD c=true):IntKind.u8.wrap ((c.toNat:Int) - 48)=((c.toNat - 48:Nat):Int):=by
  rw [d_dec] at h
  have:=of_decide_eq_true h
  rw [wrap_u8];omega
theorem num_lt:∀ (d:List UInt8),d.length≤3→(∀ c∈d,Lx.isD c=true)→Lx.num d≤999:=by
  intro d hl hd
  have h9:∀ c∈d,c.toNat - 48≤9:=fun c hc=>by
    have:=hd c hc
    rw [d_dec] at this
    have:=of_decide_eq_true this
    omega
  match d with
  | []=>simp [Lx.num]
  | [a]=>have:=h9 a (by simp);simp [Lx.num];omega
  | [a,b]=>have:=h9 a (by simp);have:=h9 b (by simp);simp [Lx.num];omega
  | [a,b,c]=>have:=h9 a (by simp);have:=h9 b (by simp);have:=h9 c (by simp);simp [Lx.num];omega
  | a::b::c::e::r=>simp at hl
theorem num_take (d:List UInt8) (k:Nat) (hk:k<d.length):Lx.num (d.take (k+1))=10*Lx.num (d.take k)+((d.getD k 0).toNat - 48):=by
  have e:d.take (k+1)=d.take k++[d.getD k 0]:=by
    rw [List.take_add_one]
    simp [List.getD,hk]
  unfold Lx.num
  rw [e,List.foldl_append]
  rfl
def Lx.numOk (d:List UInt8):Prop:=¬ (3<d.length∨(1<d.length∧d.getD 0 0=48))
instance (d:List UInt8):Decidable (Lx.numOk d):=by unfold Lx.numOk;infer_instance
set_option maxHeartbeats 1000000 in
theorem number_c (a:Addr) (tx:List UInt8) (i:Nat) (hi:i≤tx.length) (hs:tx.length≤10000) (d:List UInt8) (hd:(tx.drop i).takeWhile Lx.isD=d) (hne:d≠[]) :
    NCall Tryd.prog 103 [.ptr 0 a 0] [LB a tx i] fun r m=>r = .tup [if Lx.numOk d then tokAV 2 (Lx.num d) [] i else tokAV 0 0 [] i,.bool (decide (Lx.numOk d))]∧MemFits m [LB a tx (i+d.length)]:=by
  have hall:∀ c∈d,Lx.isD c=true:=fun c hc=>by rw [← hd] at hc;exact Lx.tw_all hc
  have hw:=while_c 102 Lx.isD digit_c a tx i hi hs
  have hwl:Lx.wl Lx.isD tx i=d.length:=by unfold Lx.wl;rw [hd]
  rw [hwl,hd] at hw
  have hl1:1≤d.length:=by cases d with | nil=>exact (hne rfl).elim | cons x d=>simp
  clear hd hwl
  refine ncall_of Tryd.func103 rfl (by decide) ?_
  by_cases h:Lx.numOk d
  · rw [if_pos h,decide_eq_true h]
    have hl3:d.length≤3:=by
      by_cases e:3<d.length
      · exact (h (.inl e)).elim
      · omega
    have hz:¬ (1<d.length∧(d.getD 0 0).toNat=48):=fun e=>h (.inr ⟨e.1,UInt8.toNat_inj.1 (by rw [e.2];rfl)⟩)
    have hk:=num_lt
    unfold tokAV
    by_cases h1:1<d.length
    · have hz0:(d.getD 0 0).toNat≠48:=fun e=>hz ⟨h1,e⟩
      (repeat' (first|(with_reducible first|(refine hK _ _ ?_;clear hK K)|(refine hB ?_;clear hA hB A B)|(refine hK _ ?_;clear hK K))|((with_reducible first|refine z25 ?_|refine z26 ?_);intro K hK;(conv=>whnf))|(with_reducible refine z0 ?_)|((first|((with_reducible refine NIf.decY ?s ?_);case s=>omega)|((with_reducible refine NIf.decN ?s ?_);case s=>omega)|(with_reducible first|refine NN.lit ?_|refine NN.a5 ?_)|((with_reducible refine NH.mk ?s ?_);case s=>(and_intros<;>first|omega|rfl))|((with_reducible refine NCall.isF 98 ?_);refine NCall.subE [0] (hw) rfl (by decide) rfl rfl ?_))<;>(conv=>whnf))|(with_reducible first|refine z3 ?_|refine z4 ?_|refine z5 ?_|refine z6 ?_)|((with_reducible refine z29 ?_);intro A B hA hB;(conv=>whnf))|(with_reducible first|refine z1 ?_|refine z2 ?_)|((with_reducible refine gF ?_);(refine z33 rfl ?_;intro K hK;(conv=>whnf)))|((intro _;skip)<;>(conv=>whnf))))
      all_goals
        refine st_auto (α:=Nat) (fun k=>k≤d.length) (fun k=>[.keep,.keep,.keep,.keep,.keep,.keep,.set (.int .i64 (Lx.num (d.take k))),.drop,.keep,.keep,.keep,.keep,.keep,.keep,.keep,.keep,.keep,.keep,.keep,.keep,.keep,.keep,.keep,.keep,.keep,.keep,.keep,.keep,.keep,.keep,.keep,.set (.int .i64 k),.drop,.drop,.drop,.drop,.drop,.drop,.drop,.drop,.drop,.drop,.drop,.keep,.keep,.keep]) (fun _=>[]) (fun k=>d.length - k) 0 (Nat.zero_le _) ?_ (MemFits.eq rfl) ?_
        · repeat (first|exact FitsSl.nil|refine FitsSl.any ?_|refine FitsSl.cons (Fit1.int (by first | rfl | omega)) ?_|refine FitsSl.cons (Fit1.bool rfl) ?_|refine FitsSl.cons (Fit1.str rfl) ?_|refine FitsSl.cons (Fit1.same (by intro h;cases h) (by with_reducible rfl)) ?_)
        (intro k hk;intro K hK;(conv=>whnf);refine hK _ _ ?_;clear hK K)
        by_cases hlt:k<d.length
        · have hn:=num_take d k hlt
          have hb:=num_lt (d.take k) (by rw [List.length_take];omega) (fun c hc=>hall c (List.mem_of_mem_take hc))
          have hdk:Lx.isD (d.getD k 0)=true:=hall _ (by simp [List.getD,hlt])
          have hsub:=u8_sub _ hdk
          rw [d_dec] at hdk
          have hdk:=of_decide_eq_true hdk
          generalize Lx.num (d.take k)=nk at *
          have hcv:IntKind.i64.wrap (((d.getD k 0).toNat - 48:Nat):Int)=(((d.getD k 0).toNat - 48:Nat):Int):=wrap_i64 (by omega) (by omega)
          (repeat' (first|(with_reducible first|(refine hK _ _ ?_;clear hK K)|(refine hA ?_;clear hA hB A B))|((with_reducible refine z25 ?_);intro K hK;(conv=>whnf))|(with_reducible refine z0 ?_)|((first|(with_reducible first|refine NV.eq (hsub) ?_|refine NV.eq (hcv) ?_)|((with_reducible refine NV.i64 ?s ?_);case s=>omega)|((with_reducible refine NIf.decY ?s ?_);case s=>omega)|(with_reducible refine NN.cast ?_)|((with_reducible refine NH.mk ?s ?_);case s=>(and_intros<;>omega)))<;>(conv=>whnf))|(with_reducible first|refine z3 ?_|refine z4 ?_|refine z5 ?_|refine z6 ?_)|((with_reducible refine z29 ?_);intro A B hA hB;(conv=>whnf))|(with_reducible first|refine z1 ?_|refine z2 ?_|refine z9 ?_)))
          refine st_round (k+1) hlt (by omega) ?_ (MemFits.eq rfl)
          repeat (first|exact FitsSl.nil|refine FitsSl.any ?_|refine FitsSl.cons (Fit1.int (by  first | rfl | (rw [hn];omega) | omega)) ?_|refine FitsSl.cons (Fit1.bool rfl) ?_|refine FitsSl.cons (Fit1.str rfl) ?_|refine FitsSl.cons (Fit1.same (by intro h;cases h) (by with_reducible rfl)) ?_)
        · have e:k=d.length:=by omega
          subst e
          rw [List.take_length]
          (repeat' (first|(with_reducible first|(refine hK _ _ ?_;clear hK K)|(refine hB ?_;clear hA hB A B)|(refine hK _ ?_;clear hK K))|((with_reducible refine z25 ?_);intro K hK;(conv=>whnf))|(with_reducible refine z0 ?_)|((first|((with_reducible refine NIf.decN ?s ?_);case s=>omega)|((with_reducible refine NH.mk ?s ?_);case s=>(and_intros<;>first|with_reducible rfl|((with_reducible refine gOnes ?_);rfl)|((with_reducible refine gLen ?_);rfl))))<;>(conv=>whnf))|(with_reducible first|refine z3 ?_|refine z4 ?_|refine z7 ?_|refine z8 ?_)|((with_reducible refine z29 ?_);intro A B hA hB;(conv=>whnf))|(with_reducible first|refine z1 ?_|refine z2 ?_|refine z10 ?_|refine z11 ?_|refine z19 ?_)|((with_reducible refine gR ?_);(refine z31 rfl ?_;intro K hK;(conv=>whnf)))))
          all_goals exact ⟨rfl,MemFits.drop [_] [_]⟩
    · (repeat' (first|(with_reducible first|(refine hK _ _ ?_;clear hK K)|(refine hB ?_;clear hA hB A B)|(refine hK _ ?_;clear hK K))|((with_reducible first|refine z25 ?_|refine z26 ?_);intro K hK;(conv=>whnf))|(with_reducible refine z0 ?_)|((first|((with_reducible refine NIf.decN ?s ?_);case s=>omega)|((with_reducible refine NIf.no ?s ?_);case s=>rfl)|(with_reducible refine NN.a5 ?_)|((with_reducible refine NH.mk ?s ?_);case s=>(and_intros<;>rfl))|((with_reducible refine NCall.isF 98 ?_);refine NCall.subE [0] (hw) rfl (by decide) rfl rfl ?_))<;>(conv=>whnf))|(with_reducible first|refine z3 ?_|refine z4 ?_|refine z5 ?_|refine z6 ?_)|((with_reducible refine z29 ?_);intro A B hA hB;(conv=>whnf))|(with_reducible first|refine z1 ?_|refine z2 ?_)|((with_reducible refine gF ?_);(refine z33 rfl ?_;intro K hK;(conv=>whnf)))|((intro _;skip)<;>(conv=>whnf))))
      all_goals
        refine st_auto (α:=Nat) (fun k=>k≤d.length) (fun k=>[.keep,.keep,.keep,.keep,.keep,.keep,.set (.int .i64 (Lx.num (d.take k))),.drop,.keep,.keep,.keep,.keep,.keep,.keep,.keep,.keep,.keep,.keep,.keep,.keep,.keep,.keep,.keep,.keep,.keep,.keep,.keep,.keep,.keep,.keep,.keep,.set (.int .i64 k),.drop,.drop,.drop,.drop,.drop,.drop,.drop,.drop,.drop,.drop,.drop,.keep,.keep,.keep]) (fun _=>[]) (fun k=>d.length - k) 0 (Nat.zero_le _) ?_ (MemFits.eq rfl) ?_
        · repeat (first|exact FitsSl.nil|refine FitsSl.any ?_|refine FitsSl.cons (Fit1.int (by first | rfl | omega)) ?_|refine FitsSl.cons (Fit1.bool rfl) ?_|refine FitsSl.cons (Fit1.str rfl) ?_|refine FitsSl.cons (Fit1.same (by intro h;cases h) (by with_reducible rfl)) ?_)
        (intro k hk;intro K hK;(conv=>whnf);refine hK _ _ ?_;clear hK K)
        by_cases hlt:k<d.length
        · have hn:=num_take d k hlt
          have hb:=num_lt (d.take k) (by rw [List.length_take];omega) (fun c hc=>hall c (List.mem_of_mem_take hc))
          have hdk:Lx.isD (d.getD k 0)=true:=hall _ (by simp [List.getD,hlt])
          have hsub:=u8_sub _ hdk
          rw [d_dec] at hdk
          have hdk:=of_decide_eq_true hdk
          generalize Lx.num (d.take k)=nk at *
          have hcv:IntKind.i64.wrap (((d.getD k 0).toNat - 48:Nat):Int)=(((d.getD k 0).toNat - 48:Nat):Int):=wrap_i64 (by omega) (by omega)
          (repeat' (first|(with_reducible first|(refine hK _ _ ?_;clear hK K)|(refine hA ?_;clear hA hB A B))|((with_reducible refine z25 ?_);intro K hK;(conv=>whnf))|(with_reducible refine z0 ?_)|((first|(with_reducible first|refine NV.eq (hsub) ?_|refine NV.eq (hcv) ?_)|((with_reducible refine NV.i64 ?s ?_);case s=>omega)|((with_reducible refine NIf.decY ?s ?_);case s=>omega)|(with_reducible refine NN.cast ?_)|((with_reducible refine NH.mk ?s ?_);case s=>(and_intros<;>omega)))<;>(conv=>whnf))|(with_reducible first|refine z3 ?_|refine z4 ?_|refine z5 ?_|refine z6 ?_)|((with_reducible refine z29 ?_);intro A B hA hB;(conv=>whnf))|(with_reducible first|refine z1 ?_|refine z2 ?_|refine z9 ?_)))
          refine st_round (k+1) hlt (by omega) ?_ (MemFits.eq rfl)
          repeat (first|exact FitsSl.nil|refine FitsSl.any ?_|refine FitsSl.cons (Fit1.int (by  first | rfl | (rw [hn];omega) | omega)) ?_|refine FitsSl.cons (Fit1.bool rfl) ?_|refine FitsSl.cons (Fit1.str rfl) ?_|refine FitsSl.cons (Fit1.same (by intro h;cases h) (by with_reducible rfl)) ?_)
        · have e:k=d.length:=by omega
          subst e
          rw [List.take_length]
          (repeat' (first|(with_reducible first|(refine hK _ _ ?_;clear hK K)|(refine hB ?_;clear hA hB A B)|(refine hK _ ?_;clear hK K))|((with_reducible refine z25 ?_);intro K hK;(conv=>whnf))|(with_reducible refine z0 ?_)|((first|((with_reducible refine NIf.decN ?s ?_);case s=>omega)|((with_reducible refine NH.mk ?s ?_);case s=>(and_intros<;>first|with_reducible rfl|((with_reducible refine gOnes ?_);rfl)|((with_reducible refine gLen ?_);rfl))))<;>(conv=>whnf))|(with_reducible first|refine z3 ?_|refine z4 ?_|refine z7 ?_|refine z8 ?_)|((with_reducible refine z29 ?_);intro A B hA hB;(conv=>whnf))|(with_reducible first|refine z1 ?_|refine z2 ?_|refine z10 ?_|refine z11 ?_|refine z19 ?_)|((with_reducible refine gR ?_);(refine z31 rfl ?_;intro K hK;(conv=>whnf)))))
          all_goals exact ⟨rfl,MemFits.drop [_] [_]⟩
  · rw [if_neg h,decide_eq_false h]
    unfold tokAV
    have h':3<d.length∨(1<d.length∧(d.getD 0 0).toNat=48):=by
      by_cases e:3<d.length
      · exact .inl e
      · by_cases e2:1<d.length∧d.getD 0 0=48
        · exact .inr ⟨e2.1,by rw [e2.2];rfl⟩
        · exact (h (fun q=>q.elim e e2)).elim
    (repeat' (first|(with_reducible first|(refine hK _ _ ?_;clear hK K)|(refine hA ?_;clear hA hB A B)|(refine hK _ ?_;clear hK K))|((with_reducible first|refine z25 ?_|refine z26 ?_);intro K hK;(conv=>whnf))|(with_reducible refine z0 ?_)|((first|((with_reducible refine NIf.decY ?s ?_);case s=>first|assumption|omega)|((with_reducible refine NIf.decN ?s ?_);case s=>assumption)|((with_reducible refine NIf.yes ?s ?_);case s=>rfl)|(with_reducible first|refine NIf.dec (fun _=>?_) (fun _=>?_)|refine NN.lit ?_|refine NN.a5 ?_)|((with_reducible refine NH.mk ?s ?_);case s=>(and_intros<;>first|with_reducible rfl|((with_reducible refine gOnes ?_);rfl)|((with_reducible refine gLen ?_);rfl)|omega|rfl))|((with_reducible refine NCall.isF 98 ?_);refine NCall.subE [0] (hw) rfl (by decide) rfl rfl ?_))<;>(conv=>whnf))|(with_reducible first|refine z3 ?_|refine z4 ?_|refine z8 ?_)|((with_reducible refine z29 ?_);intro A B hA hB;(conv=>whnf))|(with_reducible first|refine z1 ?_|refine z2 ?_|refine z12 ?_)|((with_reducible refine gR ?_);(refine z31 rfl ?_;intro K hK;(conv=>whnf)))|((with_reducible refine gF ?_);(refine z33 rfl ?_;intro K hK;(conv=>whnf)))|((intro _;skip)<;>(conv=>whnf))))
    all_goals first
      | exact ⟨rfl,MemFits.drop [_] [_]⟩
      | (exfalso;omega)
end Go.Proofs.YtaojbkphcnailaaDoor
