import Derived.Test.YtgphhbadnjfbjaaDoorSu21
namespace Go.Proofs.YtgphhbadnjfbjaaDoor
open Go.Sx
set_option maxRecDepth 20000
set_option linter.unusedSimpArgs false
set_option linter.unusedVariables false
set_option maxHeartbeats 8000000
set_option linter.unusedVariables false
namespace Su
theorem num_shape {s:L} {n:Int} (h:num s=some n):s.length≤17∧((n<0∧0<s.length∧(s.getD 0 0).toNat=45∧Num.digs (s.drop 1)∧n = -1*(Num.val (s.drop 1):Int))∨(¬ (0<s.length∧(s.getD 0 0).toNat=45)∧Num.digs (s.drop 0)∧n=1*(Num.val (s.drop 0):Int))):=by
  obtain ⟨rfl,h1,h2⟩:=num_some.1 h
  unfold big at h1 h2
  rcases Int.lt_or_le n 0 with hn | hn
  · obtain ⟨u,rfl⟩:∃ u:Nat,n = -(u:Int):=⟨n.natAbs,by omega⟩
    rw [Lib.itoa_neg u (by omega)]
    have hl:=Num.dec_len u 15 (by omega)
    refine ⟨by rw [List.length_cons];omega,.inl ⟨hn,by simp,rfl,Num.dec_digs u,?_⟩⟩
    show _ = -1*(Num.val (Lib.decDigits u):Int)
    rw [Num.dec_val];omega
  · obtain ⟨u,rfl⟩:=Int.eq_ofNat_of_zero_le hn
    rw [Lib.itoa_nonneg u]
    have hl:=Num.dec_len u 15 (by omega)
    have hd:=Num.dec_digs u
    have hv:=Num.dec_val u
    refine ⟨by omega,.inr ⟨fun ⟨h3,h4⟩=>?_,hd,by rw [List.drop_zero,hv];omega⟩⟩
    cases e:Lib.decDigits u with
    | nil=>rw [e] at h3;simp at h3
    | cons c r =>
      have:=hd c (by rw [e];exact List.mem_cons_self ..)
      rw [e] at h4
      have h4:c.toNat=45:=h4
      omega
theorem val_take {t:L} {k:Nat} (h:k<t.length):Num.val (t.take (k+1))=10*Num.val (t.take k)+(t.getD k 0).toNat - 48:=by
  rw [List.take_succ_eq_append_getElem h,Num.val_snoc,List.getD_eq_getElem?_getD,List.getElem?_eq_getElem h];rfl
theorem num_is {s:L} {x:Int} (h:Lib.itoa x=s) (h1 : -1125899906842624≤x) (h2:x≤1125899906842624):num s=some x:=num_some.2 ⟨h,h1,h2⟩
end Su
theorem refnumber40_neg (s:List UInt8) (hs:s.length≤1000000) (hc:0<s.length∧(s.getD 0 0).toNat=45):NCall Tryd.prog 44 [.str s] [] fun r _=>∃ x:Int,r = .tup [.int .i64 x,.bool (Su.num s).isSome]∧∀ n,Su.num s=some n→x=n:=by
  refine ncall_of Tryd.func44 rfl (by decide) ?_
  have hsh:=fun n h=>Su.num_shape (s:=s) (n:=n) h
  by_cases hl:s.length≤17
  rotate_left
  · have hn:Su.num s=none:=by
      cases e:Su.num s with
      | none=>rfl
      | some n=>exact (hl (hsh n e).1).elim
    rw [hn]
    (repeat' (first|(with_reducible first|(refine hK _ _ ?_;clear hK K)|(refine hA ?_;clear hA hB A B)|(refine hK _ ?_;clear hK K))|((with_reducible first|refine z25 ?_|refine z26 ?_);intro K hK;(conv=>whnf))|(with_reducible refine z0 ?_)|((first|((with_reducible refine NIf.decY ?s ?_);case s=>omega)|(with_reducible refine NN.lit ?_)|((with_reducible refine NH.mk ?s ?_);case s=>(and_intros<;>omega)))<;>(conv=>whnf))|(with_reducible first|refine z3 ?_|refine z4 ?_|refine z8 ?_)|((with_reducible refine z29 ?_);intro A B hA hB;(conv=>whnf))|(with_reducible first|refine z1 ?_|refine z2 ?_|refine z12 ?_)|((with_reducible refine gR ?_);(refine z31 rfl ?_;intro K hK;(conv=>whnf)))|((with_reducible refine gF ?_);(refine z33 rfl ?_;intro K hK;(conv=>whnf)))))
    all_goals try (exfalso;omega)
    all_goals exact ⟨0,rfl,fun n h=>by cases h⟩
  have hsh2:∀ n,Su.num s=some n→Num.digs (s.drop 1)∧n = -1*(Num.val (s.drop 1):Int):=fun n h=>by
    rcases (hsh n h).2 with ⟨g1,g2,g3,g4,g5⟩ | ⟨g1,g2,g3⟩
    · exact ⟨g4,g5⟩
    · exact (g1 hc).elim
  have hlen:(s.drop 1).length=s.length - 1:=List.length_drop
  have hbyte:∀ k,(s.drop 1).getD k 0=s.getD (1+k) 0:=fun k=>by rw [List.getD_eq_getElem?_getD,List.getD_eq_getElem?_getD,List.getElem?_drop]
  clear hsh
  generalize s.drop 1=t at *
  (repeat' (first|(with_reducible first|(refine hK _ _ ?_;clear hK K)|(refine hA ?_;clear hA hB A B)|(refine hB ?_;clear hA hB A B)|(refine hK _ ?_;clear hK K))|((with_reducible first|refine z25 ?_|refine z26 ?_);intro K hK;(conv=>whnf))|(with_reducible refine z0 ?_)|((first|((with_reducible refine NIf.decY ?s ?_);case s=>omega)|((with_reducible refine NIf.decN ?s ?_);case s=>omega)|(with_reducible refine NN.lit ?_)|((with_reducible refine NH.mk ?s ?_);case s=>(and_intros<;>omega)))<;>(conv=>whnf))|(with_reducible first|refine z3 ?_|refine z4 ?_|refine z5 ?_|refine z6 ?_)|((with_reducible refine z29 ?_);intro A B hA hB;(conv=>whnf))|(with_reducible first|refine z1 ?_|refine z2 ?_)|((with_reducible refine gF ?_);(refine z33 rfl ?_;intro K hK;(conv=>whnf)))))
  all_goals try (exfalso;omega)
  all_goals refine st_auto (α:=Nat × Nat) (fun (k,n)=>k≤t.length∧n=Num.val (t.take k)∧n+1≤10 ^ k) (fun (k,n)=>[.keep,.keep,.drop,.drop,.keep,.keep,.set (.int .i64 n),.set (.int .i64 (1+k:Nat)),.keep,.keep,.keep,.keep,.keep,.keep,.keep,.keep,.keep,.keep,.keep,.keep,.drop,.drop,.drop,.drop,.drop,.drop,.drop,.drop,.drop,.drop,.drop,.drop,.drop,.drop,.drop,.drop,.drop,.drop,.drop,.drop,.drop,.drop,.drop,.drop,.keep,.keep,.keep,.keep,.keep,.keep,.keep,.keep,.keep,.keep,.keep,.keep,.keep,.keep,.keep,.keep]) (fun _=>[]) (fun (k,n)=>t.length - k) (0,0) ⟨Nat.zero_le _,rfl,by decide⟩ ?_ (MemFits.eq rfl) ?_
  · repeat (first|exact FitsSl.nil|refine FitsSl.any ?_|refine FitsSl.cons (Fit1.int (by first | rfl | omega)) ?_|refine FitsSl.cons (Fit1.bool rfl) ?_|refine FitsSl.cons (Fit1.str rfl) ?_)
  (intro ⟨k,n⟩ ⟨hk,hv,hn⟩;intro K hK;(conv=>whnf);refine hK _ _ ?_;clear hK K)
  dsimp only at hk hv hn ⊢
  by_cases hlt:k<t.length
  · have hn2:n+1≤100000000000000000:=Nat.le_trans hn ((show 10 ^ k≤100000000000000000 from Nat.pow_le_pow_right (n:=10) (j:=17) (by decide) (by omega)))
    have hb:=hbyte k
    have hnx:=Su.val_take hlt
    rw [← hv,hb] at hnx
    by_cases hd:48≤(s.getD (1+k) 0).toNat∧(s.getD (1+k) 0).toNat≤57
    · have hp:10*n+(s.getD (1+k) 0).toNat - 48+1≤10 ^ (k+1):=by rw [Nat.pow_succ];omega
      (repeat' (first|(with_reducible first|(refine hK _ _ ?_;clear hK K)|(refine hA ?_;clear hA hB A B)|(refine hB ?_;clear hA hB A B))|((with_reducible first|refine z25 ?_|refine z26 ?_);intro K hK;(conv=>whnf))|(with_reducible refine z0 ?_)|((first|((with_reducible refine NV.i64 ?s ?_);case s=>omega)|((with_reducible refine NIf.decY ?s ?_);case s=>omega)|((with_reducible refine NIf.decN ?s ?_);case s=>omega)|(with_reducible refine NN.cast ?_)|((with_reducible refine NH.mk ?s ?_);case s=>(and_intros<;>omega)))<;>(conv=>whnf))|(with_reducible first|refine z3 ?_|refine z4 ?_|refine z5 ?_|refine z6 ?_)|((with_reducible refine z29 ?_);intro A B hA hB;(conv=>whnf))|(with_reducible first|refine z1 ?_|refine z2 ?_|refine z9 ?_)))
      all_goals try (exfalso;omega)
      all_goals refine st_round (k+1,10*n+(s.getD (1+k) 0).toNat - 48) ⟨hlt,hnx.symm,hp⟩ (by dsimp only;omega) ?_ (MemFits.eq rfl)
      all_goals repeat (first|exact FitsSl.nil|refine FitsSl.any ?_|refine FitsSl.cons (Fit1.int (by  omega)) ?_|refine FitsSl.cons (Fit1.bool rfl) ?_|refine FitsSl.cons (Fit1.str rfl) ?_)
    · have hnone:Su.num s=none:=by
        cases e:Su.num s with
        | none=>rfl
        | some x =>
          have:=(hsh2 x e).1 (t.getD k 0) (by rw [List.getD_eq_getElem?_getD,List.getElem?_eq_getElem hlt];exact List.getElem_mem hlt)
          rw [hb] at this
          exact (hd this).elim
      rw [hnone]
      by_cases h48:48≤(s.getD (1+k) 0).toNat
      · (repeat' (first|(with_reducible first|(refine hK _ _ ?_;clear hK K)|(refine hA ?_;clear hA hB A B)|(refine hK _ ?_;clear hK K))|((with_reducible first|refine z25 ?_|refine z26 ?_);intro K hK;(conv=>whnf))|(with_reducible refine z0 ?_)|((first|((with_reducible refine NIf.decY ?s ?_);case s=>omega)|((with_reducible refine NIf.decN ?s ?_);case s=>omega)|(with_reducible refine NN.cast ?_)|((with_reducible refine NH.mk ?s ?_);case s=>(and_intros<;>omega)))<;>(conv=>whnf))|(with_reducible first|refine z3 ?_|refine z4 ?_|refine z5 ?_|refine z6 ?_|refine z8 ?_)|((with_reducible refine z29 ?_);intro A B hA hB;(conv=>whnf))|(with_reducible first|refine z1 ?_|refine z2 ?_|refine z12 ?_|refine z13 ?_|refine z20 ?_)|((with_reducible refine gR ?_);(refine z31 rfl ?_;intro K hK;(conv=>whnf)))))
        all_goals first | exact ⟨0,rfl,fun n h=>by cases h⟩ | (exfalso;omega)
      · (repeat' (first|(with_reducible first|(refine hK _ _ ?_;clear hK K)|(refine hA ?_;clear hA hB A B)|(refine hK _ ?_;clear hK K))|((with_reducible first|refine z25 ?_|refine z26 ?_);intro K hK;(conv=>whnf))|(with_reducible refine z0 ?_)|((first|((with_reducible refine NIf.decY ?s ?_);case s=>omega)|((with_reducible refine NIf.yes ?s ?_);case s=>rfl)|(with_reducible refine NN.cast ?_)|((with_reducible refine NH.mk ?s ?_);case s=>(and_intros<;>omega)))<;>(conv=>whnf))|(with_reducible first|refine z3 ?_|refine z4 ?_|refine z5 ?_|refine z6 ?_|refine z8 ?_)|((with_reducible refine z29 ?_);intro A B hA hB;(conv=>whnf))|(with_reducible first|refine z1 ?_|refine z2 ?_|refine z12 ?_|refine z13 ?_|refine z20 ?_)|((with_reducible refine gR ?_);(refine z31 rfl ?_;intro K hK;(conv=>whnf)))))
        all_goals first | exact ⟨0,rfl,fun n h=>by cases h⟩ | (exfalso;omega)
  · obtain rfl:k=t.length:=by omega
    have hn2:n+1≤100000000000000000:=Nat.le_trans hn ((show 10 ^ t.length≤100000000000000000 from Nat.pow_le_pow_right (n:=10) (j:=17) (by decide) (by omega)))
    rw [List.take_length] at hv
    rw [← hv] at hsh2
    have cd:=digits_c (-1*(n:Int)) ⟨by omega,by omega⟩
    obtain ⟨x,hx⟩:∃ x:Int,x = -1*(n:Int):=⟨_,rfl⟩
    have hwx:IntKind.i64.wrap (-1*(n:Int))=x:=by rw [wrap_i64 (by omega) (by omega),hx]
    rw [← hx] at cd hsh2
    have hxb : -100000000000000000≤x∧x≤100000000000000000:=⟨by omega,by omega⟩
    clear hx hv
    by_cases he:Lib.itoa x=s
    · rw [he] at cd
      by_cases h1 : -1125899906842624≤x∧x≤1125899906842624
      · have hS:=Su.num_is he h1.1 h1.2
        rw [hS]
        (repeat' (first|(with_reducible first|(refine hK _ _ ?_;clear hK K)|(refine hB ?_;clear hA hB A B)|(refine hK _ ?_;clear hK K))|((with_reducible first|refine z25 ?_|refine z26 ?_);intro K hK;(conv=>whnf))|(with_reducible refine z0 ?_)|((first|(with_reducible refine NV.eq (hwx) ?_)|((with_reducible refine NIf.yes ?s ?_);case s=>(simp ;done))|((with_reducible refine NIf.decY ?s ?_);case s=>omega)|((with_reducible refine NIf.decN ?s ?_);case s=>omega)|((with_reducible refine NCall.isF 48 ?_);refine NCall.pureE (cd) ?_))<;>(conv=>whnf))|(with_reducible first|refine z3 ?_|refine z4 ?_|refine z7 ?_|refine z8 ?_)|((with_reducible refine z29 ?_);intro A B hA hB;(conv=>whnf))|(with_reducible first|refine z1 ?_|refine z2 ?_|refine z10 ?_|refine z11 ?_|refine z19 ?_)|((with_reducible refine gR ?_);(refine z31 rfl ?_;intro K hK;(conv=>whnf)))))
        all_goals first | (exfalso;omega) | exact ⟨x,rfl,fun n h=>by injection h⟩ | exact ⟨x,congrArg (fun b=>AV.tup [.int .i64 x,.bool b]) (decide_eq_true (by omega)),fun n h=>by injection h⟩
      · have hnone:Su.num s=none:=by
          cases e:Su.num s with
          | none=>rfl
          | some y =>
            have:=(hsh2 y e).2
            have hy:=(Su.num_some.1 e).2
            unfold Su.big at hy
            exact (h1 ⟨by omega,by omega⟩).elim
        rw [hnone]
        (repeat' (first|(with_reducible first|(refine hK _ _ ?_;clear hK K)|(refine hB ?_;clear hA hB A B)|(refine hK _ ?_;clear hK K))|((with_reducible first|refine z25 ?_|refine z26 ?_);intro K hK;(conv=>whnf))|(with_reducible refine z0 ?_)|((first|(with_reducible refine NV.eq (hwx) ?_)|((with_reducible refine NIf.yes ?s ?_);case s=>(simp ;done))|((with_reducible refine NIf.decY ?s ?_);case s=>assumption)|((with_reducible refine NIf.decN ?s ?_);case s=>first|assumption|omega)|(with_reducible refine NIf.dec (fun _=>?_) (fun _=>?_))|((with_reducible refine NCall.isF 48 ?_);refine NCall.pureE (cd) ?_))<;>(conv=>whnf))|(with_reducible first|refine z3 ?_|refine z4 ?_|refine z7 ?_|refine z8 ?_)|((with_reducible refine z29 ?_);intro A B hA hB;(conv=>whnf))|(with_reducible first|refine z1 ?_|refine z2 ?_|refine z10 ?_|refine z11 ?_|refine z19 ?_)|((with_reducible refine gR ?_);(refine z31 rfl ?_;intro K hK;(conv=>whnf)))))
        all_goals first | exact ⟨x,rfl,fun n h=>by cases h⟩ | exact ⟨x,congrArg (fun b=>AV.tup [.int .i64 x,.bool b]) (decide_eq_false (by omega)),fun n h=>by cases h⟩ | (exfalso;omega)
    · have hnone:Su.num s=none:=by
        cases e:Su.num s with
        | none=>rfl
        | some y =>
          have:=(hsh2 y e).2
          have hy:=(Su.num_some.1 e).1
          rw [this] at hy
          exact (he hy).elim
      rw [hnone]
      generalize Lib.itoa x=z at *
      (repeat' (first|(with_reducible first|(refine hK _ _ ?_;clear hK K)|(refine hB ?_;clear hA hB A B)|(refine hK _ ?_;clear hK K))|((with_reducible first|refine z25 ?_|refine z26 ?_);intro K hK;(conv=>whnf))|(with_reducible refine z0 ?_)|((first|(with_reducible refine NV.eq (hwx) ?_)|((with_reducible refine NIf.no ?s ?_);case s=>(simp [he];done))|((with_reducible refine NIf.decN ?s ?_);case s=>omega)|((with_reducible refine NCall.isF 48 ?_);refine NCall.pureE (cd) ?_))<;>(conv=>whnf))|(with_reducible first|refine z3 ?_|refine z4 ?_|refine z7 ?_|refine z8 ?_)|((with_reducible refine z29 ?_);intro A B hA hB;(conv=>whnf))|(with_reducible first|refine z1 ?_|refine z2 ?_|refine z10 ?_|refine z11 ?_|refine z19 ?_)|((with_reducible refine gR ?_);(refine z31 rfl ?_;intro K hK;(conv=>whnf)))))
      all_goals first | exact ⟨x,rfl,fun n h=>by cases h⟩ | (exfalso;omega)
theorem refnumber40_pos (s:List UInt8) (hs:s.length≤1000000) (hc:0<s.length∧¬ (s.getD 0 0).toNat=45):NCall Tryd.prog 44 [.str s] [] fun r _=>∃ x:Int,r = .tup [.int .i64 x,.bool (Su.num s).isSome]∧∀ n,Su.num s=some n→x=n:=by
  refine ncall_of Tryd.func44 rfl (by decide) ?_
  have hsh:=fun n h=>Su.num_shape (s:=s) (n:=n) h
  by_cases hl:s.length≤17
  rotate_left
  · have hn:Su.num s=none:=by
      cases e:Su.num s with
      | none=>rfl
      | some n=>exact (hl (hsh n e).1).elim
    rw [hn]
    (repeat' (first|(with_reducible first|(refine hK _ _ ?_;clear hK K)|(refine hA ?_;clear hA hB A B)|(refine hB ?_;clear hA hB A B)|(refine hK _ ?_;clear hK K))|((with_reducible first|refine z25 ?_|refine z26 ?_);intro K hK;(conv=>whnf))|(with_reducible refine z0 ?_)|((first|((with_reducible refine NIf.decY ?s ?_);case s=>omega)|((with_reducible refine NIf.decN ?s ?_);case s=>omega)|(with_reducible refine NN.lit ?_)|((with_reducible refine NH.mk ?s ?_);case s=>(and_intros<;>omega)))<;>(conv=>whnf))|(with_reducible first|refine z3 ?_|refine z4 ?_|refine z6 ?_|refine z8 ?_)|((with_reducible refine z29 ?_);intro A B hA hB;(conv=>whnf))|(with_reducible first|refine z1 ?_|refine z2 ?_|refine z12 ?_)|((with_reducible refine gR ?_);(refine z31 rfl ?_;intro K hK;(conv=>whnf)))|((with_reducible refine gF ?_);(refine z33 rfl ?_;intro K hK;(conv=>whnf)))))
    all_goals try (exfalso;omega)
    all_goals exact ⟨0,rfl,fun n h=>by cases h⟩
  have hsh2:∀ n,Su.num s=some n→Num.digs (s.drop 0)∧n=1*(Num.val (s.drop 0):Int):=fun n h=>by
    rcases (hsh n h).2 with ⟨g1,g2,g3,g4,g5⟩ | ⟨g1,g2,g3⟩
    · exact (hc.2 g3).elim
    · exact ⟨g2,g3⟩
  have hlen:(s.drop 0).length=s.length - 0:=List.length_drop
  have hbyte:∀ k,(s.drop 0).getD k 0=s.getD (0+k) 0:=fun k=>by rw [List.getD_eq_getElem?_getD,List.getD_eq_getElem?_getD,List.getElem?_drop]
  clear hsh
  generalize s.drop 0=t at *
  (repeat' (first|(with_reducible first|(refine hK _ _ ?_;clear hK K)|(refine hB ?_;clear hA hB A B)|(refine hK _ ?_;clear hK K))|((with_reducible first|refine z25 ?_|refine z26 ?_);intro K hK;(conv=>whnf))|(with_reducible refine z0 ?_)|((first|((with_reducible refine NIf.decY ?s ?_);case s=>omega)|((with_reducible refine NIf.decN ?s ?_);case s=>omega)|(with_reducible refine NN.lit ?_)|((with_reducible refine NH.mk ?s ?_);case s=>(and_intros<;>omega)))<;>(conv=>whnf))|(with_reducible first|refine z3 ?_|refine z4 ?_|refine z5 ?_|refine z6 ?_)|((with_reducible refine z29 ?_);intro A B hA hB;(conv=>whnf))|(with_reducible first|refine z1 ?_|refine z2 ?_)|((with_reducible refine gF ?_);(refine z33 rfl ?_;intro K hK;(conv=>whnf)))))
  all_goals try (exfalso;omega)
  all_goals refine st_auto (α:=Nat × Nat) (fun (k,n)=>k≤t.length∧n=Num.val (t.take k)∧n+1≤10 ^ k) (fun (k,n)=>[.keep,.keep,.drop,.drop,.keep,.keep,.set (.int .i64 n),.set (.int .i64 (0+k:Nat)),.keep,.keep,.keep,.keep,.keep,.keep,.keep,.keep,.keep,.keep,.keep,.keep,.drop,.drop,.drop,.drop,.drop,.drop,.drop,.drop,.drop,.drop,.drop,.drop,.drop,.drop,.drop,.drop,.drop,.drop,.drop,.drop,.drop,.drop,.drop,.drop,.keep,.keep,.keep,.keep,.keep,.keep,.keep,.keep,.keep,.keep,.keep,.keep,.keep,.keep,.keep,.keep]) (fun _=>[]) (fun (k,n)=>t.length - k) (0,0) ⟨Nat.zero_le _,rfl,by decide⟩ ?_ (MemFits.eq rfl) ?_
  · repeat (first|exact FitsSl.nil|refine FitsSl.any ?_|refine FitsSl.cons (Fit1.int (by first | rfl | omega)) ?_|refine FitsSl.cons (Fit1.bool rfl) ?_|refine FitsSl.cons (Fit1.str rfl) ?_)
  (intro ⟨k,n⟩ ⟨hk,hv,hn⟩;intro K hK;(conv=>whnf);refine hK _ _ ?_;clear hK K)
  dsimp only at hk hv hn ⊢
  by_cases hlt:k<t.length
  · have hn2:n+1≤100000000000000000:=Nat.le_trans hn ((show 10 ^ k≤100000000000000000 from Nat.pow_le_pow_right (n:=10) (j:=17) (by decide) (by omega)))
    have hb:=hbyte k
    have hnx:=Su.val_take hlt
    rw [← hv,hb] at hnx
    by_cases hd:48≤(s.getD (0+k) 0).toNat∧(s.getD (0+k) 0).toNat≤57
    · have hp:10*n+(s.getD (0+k) 0).toNat - 48+1≤10 ^ (k+1):=by rw [Nat.pow_succ];omega
      (repeat' (first|(with_reducible first|(refine hK _ _ ?_;clear hK K)|(refine hA ?_;clear hA hB A B)|(refine hB ?_;clear hA hB A B))|((with_reducible first|refine z25 ?_|refine z26 ?_);intro K hK;(conv=>whnf))|(with_reducible refine z0 ?_)|((first|((with_reducible refine NV.i64 ?s ?_);case s=>omega)|((with_reducible refine NIf.decY ?s ?_);case s=>omega)|((with_reducible refine NIf.decN ?s ?_);case s=>omega)|(with_reducible refine NN.cast ?_)|((with_reducible refine NH.mk ?s ?_);case s=>(and_intros<;>omega)))<;>(conv=>whnf))|(with_reducible first|refine z3 ?_|refine z4 ?_|refine z5 ?_|refine z6 ?_)|((with_reducible refine z29 ?_);intro A B hA hB;(conv=>whnf))|(with_reducible first|refine z1 ?_|refine z2 ?_|refine z9 ?_)))
      all_goals try (exfalso;omega)
      all_goals refine st_round (k+1,10*n+(s.getD (0+k) 0).toNat - 48) ⟨hlt,hnx.symm,hp⟩ (by dsimp only;omega) ?_ (MemFits.eq rfl)
      all_goals repeat (first|exact FitsSl.nil|refine FitsSl.any ?_|refine FitsSl.cons (Fit1.int (by  omega)) ?_|refine FitsSl.cons (Fit1.bool rfl) ?_|refine FitsSl.cons (Fit1.str rfl) ?_)
    · have hnone:Su.num s=none:=by
        cases e:Su.num s with
        | none=>rfl
        | some x =>
          have:=(hsh2 x e).1 (t.getD k 0) (by rw [List.getD_eq_getElem?_getD,List.getElem?_eq_getElem hlt];exact List.getElem_mem hlt)
          rw [hb] at this
          exact (hd this).elim
      rw [hnone]
      by_cases h48:48≤(s.getD (0+k) 0).toNat
      · (repeat' (first|(with_reducible first|(refine hK _ _ ?_;clear hK K)|(refine hA ?_;clear hA hB A B)|(refine hK _ ?_;clear hK K))|((with_reducible first|refine z25 ?_|refine z26 ?_);intro K hK;(conv=>whnf))|(with_reducible refine z0 ?_)|((first|((with_reducible refine NIf.decY ?s ?_);case s=>omega)|((with_reducible refine NIf.decN ?s ?_);case s=>omega)|(with_reducible refine NN.cast ?_)|((with_reducible refine NH.mk ?s ?_);case s=>(and_intros<;>omega)))<;>(conv=>whnf))|(with_reducible first|refine z3 ?_|refine z4 ?_|refine z5 ?_|refine z6 ?_|refine z8 ?_)|((with_reducible refine z29 ?_);intro A B hA hB;(conv=>whnf))|(with_reducible first|refine z1 ?_|refine z2 ?_|refine z12 ?_|refine z13 ?_|refine z20 ?_)|((with_reducible refine gR ?_);(refine z31 rfl ?_;intro K hK;(conv=>whnf)))))
        all_goals first | exact ⟨0,rfl,fun n h=>by cases h⟩ | (exfalso;omega)
      · (repeat' (first|(with_reducible first|(refine hK _ _ ?_;clear hK K)|(refine hA ?_;clear hA hB A B)|(refine hK _ ?_;clear hK K))|((with_reducible first|refine z25 ?_|refine z26 ?_);intro K hK;(conv=>whnf))|(with_reducible refine z0 ?_)|((first|((with_reducible refine NIf.decY ?s ?_);case s=>omega)|((with_reducible refine NIf.yes ?s ?_);case s=>rfl)|(with_reducible refine NN.cast ?_)|((with_reducible refine NH.mk ?s ?_);case s=>(and_intros<;>omega)))<;>(conv=>whnf))|(with_reducible first|refine z3 ?_|refine z4 ?_|refine z5 ?_|refine z6 ?_|refine z8 ?_)|((with_reducible refine z29 ?_);intro A B hA hB;(conv=>whnf))|(with_reducible first|refine z1 ?_|refine z2 ?_|refine z12 ?_|refine z13 ?_|refine z20 ?_)|((with_reducible refine gR ?_);(refine z31 rfl ?_;intro K hK;(conv=>whnf)))))
        all_goals first | exact ⟨0,rfl,fun n h=>by cases h⟩ | (exfalso;omega)
  · obtain rfl:k=t.length:=by omega
    have hn2:n+1≤100000000000000000:=Nat.le_trans hn ((show 10 ^ t.length≤100000000000000000 from Nat.pow_le_pow_right (n:=10) (j:=17) (by decide) (by omega)))
    rw [List.take_length] at hv
    rw [← hv] at hsh2
    have cd:=digits_c (1*(n:Int)) ⟨by omega,by omega⟩
    obtain ⟨x,hx⟩:∃ x:Int,x=1*(n:Int):=⟨_,rfl⟩
    have hwx:IntKind.i64.wrap (1*(n:Int))=x:=by rw [wrap_i64 (by omega) (by omega),hx]
    rw [← hx] at cd hsh2
    have hxb : -100000000000000000≤x∧x≤100000000000000000:=⟨by omega,by omega⟩
    clear hx hv
    by_cases he:Lib.itoa x=s
    · rw [he] at cd
      by_cases h1 : -1125899906842624≤x∧x≤1125899906842624
      · have hS:=Su.num_is he h1.1 h1.2
        rw [hS]
        (repeat' (first|(with_reducible first|(refine hK _ _ ?_;clear hK K)|(refine hB ?_;clear hA hB A B)|(refine hK _ ?_;clear hK K))|((with_reducible first|refine z25 ?_|refine z26 ?_);intro K hK;(conv=>whnf))|(with_reducible refine z0 ?_)|((first|(with_reducible refine NV.eq (hwx) ?_)|((with_reducible refine NIf.yes ?s ?_);case s=>(simp ;done))|((with_reducible refine NIf.decY ?s ?_);case s=>omega)|((with_reducible refine NIf.decN ?s ?_);case s=>omega)|((with_reducible refine NCall.isF 48 ?_);refine NCall.pureE (cd) ?_))<;>(conv=>whnf))|(with_reducible first|refine z3 ?_|refine z4 ?_|refine z7 ?_|refine z8 ?_)|((with_reducible refine z29 ?_);intro A B hA hB;(conv=>whnf))|(with_reducible first|refine z1 ?_|refine z2 ?_|refine z10 ?_|refine z11 ?_|refine z19 ?_)|((with_reducible refine gR ?_);(refine z31 rfl ?_;intro K hK;(conv=>whnf)))))
        all_goals first | (exfalso;omega) | exact ⟨x,rfl,fun n h=>by injection h⟩ | exact ⟨x,congrArg (fun b=>AV.tup [.int .i64 x,.bool b]) (decide_eq_true (by omega)),fun n h=>by injection h⟩
      · have hnone:Su.num s=none:=by
          cases e:Su.num s with
          | none=>rfl
          | some y =>
            have:=(hsh2 y e).2
            have hy:=(Su.num_some.1 e).2
            unfold Su.big at hy
            exact (h1 ⟨by omega,by omega⟩).elim
        rw [hnone]
        (repeat' (first|(with_reducible first|(refine hK _ _ ?_;clear hK K)|(refine hB ?_;clear hA hB A B)|(refine hK _ ?_;clear hK K))|((with_reducible first|refine z25 ?_|refine z26 ?_);intro K hK;(conv=>whnf))|(with_reducible refine z0 ?_)|((first|(with_reducible refine NV.eq (hwx) ?_)|((with_reducible refine NIf.yes ?s ?_);case s=>(simp ;done))|((with_reducible refine NIf.decY ?s ?_);case s=>assumption)|((with_reducible refine NIf.decN ?s ?_);case s=>first|assumption|omega)|(with_reducible refine NIf.dec (fun _=>?_) (fun _=>?_))|((with_reducible refine NCall.isF 48 ?_);refine NCall.pureE (cd) ?_))<;>(conv=>whnf))|(with_reducible first|refine z3 ?_|refine z4 ?_|refine z7 ?_|refine z8 ?_)|((with_reducible refine z29 ?_);intro A B hA hB;(conv=>whnf))|(with_reducible first|refine z1 ?_|refine z2 ?_|refine z10 ?_|refine z11 ?_|refine z19 ?_)|((with_reducible refine gR ?_);(refine z31 rfl ?_;intro K hK;(conv=>whnf)))))
        all_goals first | exact ⟨x,rfl,fun n h=>by cases h⟩ | exact ⟨x,congrArg (fun b=>AV.tup [.int .i64 x,.bool b]) (decide_eq_false (by omega)),fun n h=>by cases h⟩ | (exfalso;omega)
    · have hnone:Su.num s=none:=by
        cases e:Su.num s with
        | none=>rfl
        | some y =>
          have:=(hsh2 y e).2
          have hy:=(Su.num_some.1 e).1
          rw [this] at hy
          exact (he hy).elim
      rw [hnone]
      generalize Lib.itoa x=z at *
      (repeat' (first|(with_reducible first|(refine hK _ _ ?_;clear hK K)|(refine hB ?_;clear hA hB A B)|(refine hK _ ?_;clear hK K))|((with_reducible first|refine z25 ?_|refine z26 ?_);intro K hK;(conv=>whnf))|(with_reducible refine z0 ?_)|((first|(with_reducible refine NV.eq (hwx) ?_)|((with_reducible refine NIf.no ?s ?_);case s=>(simp [he];done))|((with_reducible refine NIf.decN ?s ?_);case s=>omega)|((with_reducible refine NCall.isF 48 ?_);refine NCall.pureE (cd) ?_))<;>(conv=>whnf))|(with_reducible first|refine z3 ?_|refine z4 ?_|refine z7 ?_|refine z8 ?_)|((with_reducible refine z29 ?_);intro A B hA hB;(conv=>whnf))|(with_reducible first|refine z1 ?_|refine z2 ?_|refine z10 ?_|refine z11 ?_|refine z19 ?_)|((with_reducible refine gR ?_);(refine z31 rfl ?_;intro K hK;(conv=>whnf)))))
      all_goals first | exact ⟨x,rfl,fun n h=>by cases h⟩ | (exfalso;omega)
theorem refnumber40_nil (s:List UInt8) (hs:s.length≤1000000) (hc:¬ 0<s.length):NCall Tryd.prog 44 [.str s] [] fun r _=>∃ x:Int,r = .tup [.int .i64 x,.bool (Su.num s).isSome]∧∀ n,Su.num s=some n→x=n:=by
  refine ncall_of Tryd.func44 rfl (by decide) ?_
  have hsh:=fun n h=>Su.num_shape (s:=s) (n:=n) h
  by_cases hl:s.length≤17
  rotate_left
  · have hn:Su.num s=none:=by
      cases e:Su.num s with
      | none=>rfl
      | some n=>exact (hl (hsh n e).1).elim
    rw [hn]
    (repeat' (first|(with_reducible first|(refine hK _ _ ?_;clear hK K)|(refine hA ?_;clear hA hB A B)|(refine hK _ ?_;clear hK K))|((with_reducible first|refine z25 ?_|refine z26 ?_);intro K hK;(conv=>whnf))|(with_reducible refine z0 ?_)|((first|((with_reducible refine NIf.decY ?s ?_);case s=>omega)|(with_reducible refine NN.lit ?_)|((with_reducible refine NH.mk ?s ?_);case s=>(and_intros<;>omega)))<;>(conv=>whnf))|(with_reducible first|refine z3 ?_|refine z4 ?_|refine z8 ?_)|((with_reducible refine z29 ?_);intro A B hA hB;(conv=>whnf))|(with_reducible first|refine z1 ?_|refine z2 ?_|refine z12 ?_)|((with_reducible refine gR ?_);(refine z31 rfl ?_;intro K hK;(conv=>whnf)))|((with_reducible refine gF ?_);(refine z33 rfl ?_;intro K hK;(conv=>whnf)))))
    all_goals try (exfalso;omega)
    all_goals exact ⟨0,rfl,fun n h=>by cases h⟩
  have hsh2:∀ n,Su.num s=some n→Num.digs (s.drop 0)∧n=1*(Num.val (s.drop 0):Int):=fun n h=>by
    rcases (hsh n h).2 with ⟨g1,g2,g3,g4,g5⟩ | ⟨g1,g2,g3⟩
    · exact (hc g2).elim
    · exact ⟨g2,g3⟩
  have hlen:(s.drop 0).length=s.length - 0:=List.length_drop
  have hbyte:∀ k,(s.drop 0).getD k 0=s.getD (0+k) 0:=fun k=>by rw [List.getD_eq_getElem?_getD,List.getD_eq_getElem?_getD,List.getElem?_drop]
  clear hsh
  generalize s.drop 0=t at *
  (repeat' (first|(with_reducible first|(refine hK _ _ ?_;clear hK K)|(refine hB ?_;clear hA hB A B)|(refine hK _ ?_;clear hK K))|((with_reducible first|refine z25 ?_|refine z26 ?_);intro K hK;(conv=>whnf))|(with_reducible refine z0 ?_)|((first|((with_reducible refine NIf.decN ?s ?_);case s=>omega)|((with_reducible refine NIf.no ?s ?_);case s=>rfl))<;>(conv=>whnf))|(with_reducible first|refine z3 ?_|refine z4 ?_|refine z5 ?_|refine z6 ?_)|((with_reducible refine z29 ?_);intro A B hA hB;(conv=>whnf))|(with_reducible first|refine z1 ?_|refine z2 ?_)|((with_reducible refine gF ?_);(refine z33 rfl ?_;intro K hK;(conv=>whnf)))))
  all_goals try (exfalso;omega)
  all_goals refine st_auto (α:=Nat × Nat) (fun (k,n)=>k≤t.length∧n=Num.val (t.take k)∧n+1≤10 ^ k) (fun (k,n)=>[.keep,.keep,.drop,.drop,.keep,.keep,.set (.int .i64 n),.set (.int .i64 (0+k:Nat)),.keep,.keep,.keep,.keep,.keep,.keep,.keep,.keep,.keep,.keep,.keep,.keep,.drop,.drop,.drop,.drop,.drop,.drop,.drop,.drop,.drop,.drop,.drop,.drop,.drop,.drop,.drop,.drop,.drop,.drop,.drop,.drop,.drop,.drop,.drop,.drop,.keep,.keep,.keep,.keep,.keep,.keep,.keep,.keep,.keep,.keep,.keep,.keep,.keep,.keep,.keep,.keep]) (fun _=>[]) (fun (k,n)=>t.length - k) (0,0) ⟨Nat.zero_le _,rfl,by decide⟩ ?_ (MemFits.eq rfl) ?_
  · repeat (first|exact FitsSl.nil|refine FitsSl.any ?_|refine FitsSl.cons (Fit1.int (by first | rfl | omega)) ?_|refine FitsSl.cons (Fit1.bool rfl) ?_|refine FitsSl.cons (Fit1.str rfl) ?_|refine FitsSl.cons (Fit1.same (by intro h;cases h) (by with_reducible rfl)) ?_)
  (intro ⟨k,n⟩ ⟨hk,hv,hn⟩;intro K hK;(conv=>whnf);refine hK _ _ ?_;clear hK K)
  dsimp only at hk hv hn ⊢
  by_cases hlt:k<t.length
  · have hn2:n+1≤100000000000000000:=Nat.le_trans hn ((show 10 ^ k≤100000000000000000 from Nat.pow_le_pow_right (n:=10) (j:=17) (by decide) (by omega)))
    have hb:=hbyte k
    have hnx:=Su.val_take hlt
    rw [← hv,hb] at hnx
    by_cases hd:48≤(s.getD (0+k) 0).toNat∧(s.getD (0+k) 0).toNat≤57
    · have hp:10*n+(s.getD (0+k) 0).toNat - 48+1≤10 ^ (k+1):=by rw [Nat.pow_succ];omega
      (repeat' (first|(with_reducible first|(refine hK _ _ ?_;clear hK K)|(refine hA ?_;clear hA hB A B)|(refine hK _ ?_;clear hK K))|((with_reducible first|refine z25 ?_|refine z26 ?_);intro K hK;(conv=>whnf))|(with_reducible refine z0 ?_)|((first|((with_reducible refine NIf.decY ?s ?_);case s=>omega)|((with_reducible refine NIf.yes ?s ?_);case s=>rfl)|(with_reducible refine NN.cast ?_)|((with_reducible refine NH.mk ?s ?_);case s=>(and_intros<;>omega)))<;>(conv=>whnf))|(with_reducible first|refine z3 ?_|refine z4 ?_|refine z5 ?_|refine z6 ?_|refine z8 ?_)|((with_reducible refine z29 ?_);intro A B hA hB;(conv=>whnf))|(with_reducible first|refine z1 ?_|refine z2 ?_|refine z12 ?_|refine z13 ?_|refine z20 ?_)|((with_reducible refine gR ?_);(refine z31 rfl ?_;intro K hK;(conv=>whnf)))))
      all_goals try (exfalso;omega)
      all_goals refine st_round (k+1,10*n+(s.getD (0+k) 0).toNat - 48) ⟨hlt,hnx.symm,hp⟩ (by dsimp only;omega) ?_ (MemFits.eq rfl)
      all_goals repeat (first|exact FitsSl.nil|refine FitsSl.any ?_|refine FitsSl.cons (Fit1.int (by  omega)) ?_|refine FitsSl.cons (Fit1.int (by first | rfl | omega)) ?_|refine FitsSl.cons (Fit1.bool rfl) ?_|refine FitsSl.cons (Fit1.str rfl) ?_|refine FitsSl.cons (Fit1.same (by intro h;cases h) (by with_reducible rfl)) ?_|refine FitsSl.cons Fit1.nil_sl ?_|refine FitsSl.cons (Fit1.hs rfl) ?_|refine FitsSl.cons (Fit1.hp rfl rfl) ?_|refine FitsSl.cons (Fit1.sl rfl) ?_|refine FitsSl.cons (Fit1.ptr rfl rfl) ?_|refine FitsSl.cons Fit1.raw ?_)
    · have hnone:Su.num s=none:=by
        cases e:Su.num s with
        | none=>rfl
        | some x =>
          have:=(hsh2 x e).1 (t.getD k 0) (by rw [List.getD_eq_getElem?_getD,List.getElem?_eq_getElem hlt];exact List.getElem_mem hlt)
          rw [hb] at this
          exact (hd this).elim
      rw [hnone]
      by_cases h48:48≤(s.getD (0+k) 0).toNat
      · (repeat' (first|(with_reducible first|(refine hK _ _ ?_;clear hK K)|(refine hA ?_;clear hA hB A B)|(refine hK _ ?_;clear hK K))|((with_reducible first|refine z25 ?_|refine z26 ?_);intro K hK;(conv=>whnf))|(with_reducible refine z0 ?_)|((first|((with_reducible refine NIf.decY ?s ?_);case s=>omega)|((with_reducible refine NIf.yes ?s ?_);case s=>rfl)|(with_reducible refine NN.cast ?_)|((with_reducible refine NH.mk ?s ?_);case s=>(and_intros<;>omega)))<;>(conv=>whnf))|(with_reducible first|refine z3 ?_|refine z4 ?_|refine z5 ?_|refine z6 ?_|refine z8 ?_)|((with_reducible refine z29 ?_);intro A B hA hB;(conv=>whnf))|(with_reducible first|refine z1 ?_|refine z2 ?_|refine z12 ?_|refine z13 ?_|refine z20 ?_)|((with_reducible refine gR ?_);(refine z31 rfl ?_;intro K hK;(conv=>whnf)))))
        all_goals first | exact ⟨0,rfl,fun n h=>by cases h⟩ | (exfalso;omega)
      · (repeat' (first|(with_reducible first|(refine hK _ _ ?_;clear hK K)|(refine hA ?_;clear hA hB A B)|(refine hK _ ?_;clear hK K))|((with_reducible first|refine z25 ?_|refine z26 ?_);intro K hK;(conv=>whnf))|(with_reducible refine z0 ?_)|((first|((with_reducible refine NIf.decY ?s ?_);case s=>omega)|((with_reducible refine NIf.yes ?s ?_);case s=>rfl)|(with_reducible refine NN.cast ?_)|((with_reducible refine NH.mk ?s ?_);case s=>(and_intros<;>omega)))<;>(conv=>whnf))|(with_reducible first|refine z3 ?_|refine z4 ?_|refine z5 ?_|refine z6 ?_|refine z8 ?_)|((with_reducible refine z29 ?_);intro A B hA hB;(conv=>whnf))|(with_reducible first|refine z1 ?_|refine z2 ?_|refine z12 ?_|refine z13 ?_|refine z20 ?_)|((with_reducible refine gR ?_);(refine z31 rfl ?_;intro K hK;(conv=>whnf)))))
        all_goals first | exact ⟨0,rfl,fun n h=>by cases h⟩ | (exfalso;omega)
  · obtain rfl:k=t.length:=by omega
    have hn2:n+1≤100000000000000000:=Nat.le_trans hn ((show 10 ^ t.length≤100000000000000000 from Nat.pow_le_pow_right (n:=10) (j:=17) (by decide) (by omega)))
    rw [List.take_length] at hv
    rw [← hv] at hsh2
    have cd:=digits_c (1*(n:Int)) ⟨by omega,by omega⟩
    obtain ⟨x,hx⟩:∃ x:Int,x=1*(n:Int):=⟨_,rfl⟩
    have hwx:IntKind.i64.wrap (1*(n:Int))=x:=by rw [wrap_i64 (by omega) (by omega),hx]
    rw [← hx] at cd hsh2
    have hxb : -100000000000000000≤x∧x≤100000000000000000:=⟨by omega,by omega⟩
    clear hx hv
    by_cases he:Lib.itoa x=s
    · rw [he] at cd
      by_cases h1 : -1125899906842624≤x∧x≤1125899906842624
      · have hS:=Su.num_is he h1.1 h1.2
        rw [hS]
        (repeat' (first|(with_reducible first|(refine hK _ _ ?_;clear hK K)|(refine hB ?_;clear hA hB A B)|(refine hK _ ?_;clear hK K))|((with_reducible first|refine z25 ?_|refine z26 ?_);intro K hK;(conv=>whnf))|(with_reducible refine z0 ?_)|((first|(with_reducible refine NV.eq (hwx) ?_)|((with_reducible refine NIf.yes ?s ?_);case s=>(simp ;done))|((with_reducible refine NIf.decY ?s ?_);case s=>omega)|((with_reducible refine NIf.decN ?s ?_);case s=>omega)|((with_reducible refine NCall.isF 48 ?_);refine NCall.pureE (cd) ?_))<;>(conv=>whnf))|(with_reducible first|refine z3 ?_|refine z4 ?_|refine z7 ?_|refine z8 ?_)|((with_reducible refine z29 ?_);intro A B hA hB;(conv=>whnf))|(with_reducible first|refine z1 ?_|refine z2 ?_|refine z10 ?_|refine z11 ?_|refine z19 ?_)|((with_reducible refine gR ?_);(refine z31 rfl ?_;intro K hK;(conv=>whnf)))))
        all_goals first | (exfalso;omega) | exact ⟨x,rfl,fun n h=>by injection h⟩ | exact ⟨x,congrArg (fun b=>AV.tup [.int .i64 x,.bool b]) (decide_eq_true (by omega)),fun n h=>by injection h⟩
      · have hnone:Su.num s=none:=by
          cases e:Su.num s with
          | none=>rfl
          | some y =>
            have:=(hsh2 y e).2
            have hy:=(Su.num_some.1 e).2
            unfold Su.big at hy
            exact (h1 ⟨by omega,by omega⟩).elim
        rw [hnone]
        (repeat' (first|(with_reducible first|(refine hK _ _ ?_;clear hK K)|(refine hB ?_;clear hA hB A B)|(refine hK _ ?_;clear hK K))|((with_reducible first|refine z25 ?_|refine z26 ?_);intro K hK;(conv=>whnf))|(with_reducible refine z0 ?_)|((first|(with_reducible refine NV.eq (hwx) ?_)|((with_reducible refine NIf.yes ?s ?_);case s=>(simp ;done))|((with_reducible refine NIf.decY ?s ?_);case s=>assumption)|((with_reducible refine NIf.decN ?s ?_);case s=>first|assumption|omega)|(with_reducible refine NIf.dec (fun _=>?_) (fun _=>?_))|((with_reducible refine NCall.isF 48 ?_);refine NCall.pureE (cd) ?_))<;>(conv=>whnf))|(with_reducible first|refine z3 ?_|refine z4 ?_|refine z7 ?_|refine z8 ?_)|((with_reducible refine z29 ?_);intro A B hA hB;(conv=>whnf))|(with_reducible first|refine z1 ?_|refine z2 ?_|refine z10 ?_|refine z11 ?_|refine z19 ?_)|((with_reducible refine gR ?_);(refine z31 rfl ?_;intro K hK;(conv=>whnf)))))
        all_goals first | exact ⟨x,rfl,fun n h=>by cases h⟩ | exact ⟨x,congrArg (fun b=>AV.tup [.int .i64 x,.bool b]) (decide_eq_false (by omega)),fun n h=>by cases h⟩ | (exfalso;omega)
    · have hnone:Su.num s=none:=by
        cases e:Su.num s with
        | none=>rfl
        | some y =>
          have:=(hsh2 y e).2
          have hy:=(Su.num_some.1 e).1
          rw [this] at hy
          exact (he hy).elim
      rw [hnone]
      generalize Lib.itoa x=z at *
      (repeat' (first|(with_reducible first|(refine hK _ _ ?_;clear hK K)|(refine hB ?_;clear hA hB A B)|(refine hK _ ?_;clear hK K))|((with_reducible first|refine z25 ?_|refine z26 ?_);intro K hK;(conv=>whnf))|(with_reducible refine z0 ?_)|((first|(with_reducible refine NV.eq (hwx) ?_)|((with_reducible refine NIf.no ?s ?_);case s=>(simp [he];done))|((with_reducible refine NIf.decN ?s ?_);case s=>omega)|((with_reducible refine NCall.isF 48 ?_);refine NCall.pureE (cd) ?_))<;>(conv=>whnf))|(with_reducible first|refine z3 ?_|refine z4 ?_|refine z7 ?_|refine z8 ?_)|((with_reducible refine z29 ?_);intro A B hA hB;(conv=>whnf))|(with_reducible first|refine z1 ?_|refine z2 ?_|refine z10 ?_|refine z11 ?_|refine z19 ?_)|((with_reducible refine gR ?_);(refine z31 rfl ?_;intro K hK;(conv=>whnf)))))
      all_goals first | exact ⟨x,rfl,fun n h=>by cases h⟩ | (exfalso;omega)
theorem refnumber40_c (s:List UInt8) (hs:s.length≤1000000):NCall Tryd.prog 44 [.str s] [] fun r _=>∃ x:Int,r = .tup [.int .i64 x,.bool (Su.num s).isSome]∧∀ n,Su.num s=some n→x=n:=by
  by_cases hc:0<s.length
  · by_cases h2:(s.getD 0 0).toNat=45
    · exact refnumber40_neg s hs ⟨hc,h2⟩
    · exact refnumber40_pos s hs ⟨hc,h2⟩
  · exact refnumber40_nil s hs hc
end Go.Proofs.YtgphhbadnjfbjaaDoor
