import Derived.Test.YtaojbkphcnailaaDoorJ5
import Derived.Test.YtaojbkphcnailaaDoorJ22
namespace Go.Proofs.YtaojbkphcnailaaDoor
open Go.Sx
set_option maxRecDepth 20000
set_option linter.unusedVariables false
namespace Lx
inductive O where
  | ok (l:List T)
  | bad (at_ e:Int)
def run (tx:List UInt8):Nat→Nat→List T→O
  | 0,_,_=>.bad 0 0
  | f+1,i,out=>if sk tx i=tx.length then .ok (out++[⟨4,0,[],tx.length⟩]) else match nextB (tx.drop (sk tx i)) with
    | none=>.bad (sk tx i:Nat) 10
    | some (b,n)=>if out.length=500 then .bad (sk tx i:Nat) 6 else run tx f (sk tx i+n) (out++[⟨b.k,b.n,b.s,(sk tx i:Nat)⟩])
def all (tx:List UInt8):O:=run tx (tx.length+1) 0 []
theorem run_more (tx:List UInt8):∀ (f g i:Nat) (out:List T),i≤tx.length→tx.length - i<f→tx.length - i<g→run tx f i out=run tx g i out
  | 0,g,i,out,_,h,_=>by omega
  | f+1,0,i,out,_,_,h=>by omega
  | f+1,g+1,i,out,hi,h1,h2=>by
    have hsk:=drop_sk tx i hi
    rw [run,run]
    by_cases hj:sk tx i=tx.length
    · rw [if_pos hj,if_pos hj]
    · rw [if_neg hj,if_neg hj]
      cases hn:nextB (tx.drop (sk tx i)) with
      | none=>rfl
      | some bn =>
        obtain ⟨b,n⟩:=bn
        have hp:=nextB_pos hn
        rw [List.length_drop] at hp
        dsimp only
        split
        · rfl
        · exact run_more tx f g _ _ (by omega) (by omega) (by omega)
theorem run_cases (tx:List UInt8):∀ (f i:Nat) (out:List T),St tx i out→tx.length - i<f →
    (∃ L,toks tx=some L∧L.length≤500∧run tx f i out = .ok (res tx L))∨(toks tx=none∧∃ a,run tx f i out = .bad a 10)∨(¬ good tx∧∃ a,run tx f i out = .bad a 6)
  | 0,i,out,_,h=>by omega
  | f+1,i,out,hst,h=>by
    have hsk:=drop_sk tx i hst.le
    rw [run]
    by_cases hj:sk tx i=tx.length
    · rw [if_pos hj]
      obtain ⟨L,h1,h2,h3⟩:=hst.done hj
      exact .inl ⟨L,h1,h2,by rw [h3]⟩
    · rw [if_neg hj]
      have hlt:sk tx i<tx.length:=by omega
      cases hn:nextB (tx.drop (sk tx i)) with
      | none =>
        obtain ⟨pre,h1,h2⟩:=hst.is
        rw [hsk.1] at hn
        have hne:skip (tx.drop i)≠[]:=by
          rw [← hsk.1];intro e2
          have:=congrArg List.length e2
          rw [List.length_drop] at this
          simp at this;omega
        rw [toks_none hne hn] at h2
        exact .inr (.inl ⟨h2,_,rfl⟩)
      | some bn =>
        obtain ⟨b,n⟩:=bn
        obtain ⟨g1,g2,g3,g4⟩:=hst.next hlt hn
        dsimp only
        by_cases hf:out.length=500
        · rw [if_pos hf]
          exact .inr (.inr ⟨g4 hf,_,rfl⟩)
        · rw [if_neg hf]
          have:=hst.few
          exact run_cases tx f _ _ (g3 (by omega)) (by omega)
theorem all_cases (tx:List UInt8) :
    (∃ L,toks tx=some L∧L.length≤500∧all tx = .ok (res tx L))∨(toks tx=none∧∃ a,all tx = .bad a 10)∨(¬ good tx∧∃ a,all tx = .bad a 6):=run_cases tx _ 0 [] (St.begin tx) (by omega)
end Lx
end Go.Proofs.YtaojbkphcnailaaDoor
namespace Go.Proofs.YtaojbkphcnailaaDoor
open Go.Sx
set_option maxRecDepth 20000
set_option linter.unusedSimpArgs false
set_option linter.unusedVariables false
set_option maxHeartbeats 4000000
set_option linter.unusedVariables false
namespace Lx
theorem skip_spc {c:UInt8} {r:List UInt8} (h:isSp c=true):skip (c::r)=skip r:=by
  have e3:(c::r).dropWhile isSp=r.dropWhile isSp:=List.dropWhile_cons_of_pos h
  cases hu:r.dropWhile isSp with
  | nil=>rw [skip_nil (e3.trans hu),skip_nil hu]
  | cons d q=>rw [skip_cons (e3.trans hu),skip_cons hu]
theorem sk_eq {tx:List UInt8} {i j:Nat} (h:skip (tx.drop i)=skip (tx.drop j)):sk tx i=sk tx j:=by unfold sk;rw [h]
theorem run_same {tx:List UInt8} {i j:Nat} (h:skip (tx.drop i)=skip (tx.drop j)) (hi:i≤j) (hj:j≤tx.length) (out:List T):run tx (tx.length - i+1) i out=run tx (tx.length - j+1) j out:=by
  rw [← run_more tx (tx.length - i+1) (tx.length - j+1) j out hj (by omega) (by omega)]
  rw [run,run,sk_eq h]
theorem run_sp {tx:List UInt8} {i:Nat} (hi:i<tx.length) (hk:kd (tx.getD i 0)=0) (out:List T):run tx (tx.length - i+1) i out=run tx (tx.length - (i+1)+1) (i+1) out:=by
  refine run_same ?_ (by omega) (by omega) out
  rw [drop_getD tx i hi]
  have:=(kd_is (tx.getD i 0)).1
  rw [decide_eq_true hk] at this
  exact skip_spc this.symm
theorem run_rem {tx:List UInt8} {i:Nat} (hi:i<tx.length) (hk:kd (tx.getD i 0)=4) (out:List T):i<i+wl notNl tx i∧i+wl notNl tx i≤tx.length∧run tx (tx.length - i+1) i out=run tx (tx.length - (i+wl notNl tx i)+1) (i+wl notNl tx i) out:=by
  have hle:=wl_le notNl tx i (by omega)
  have h4:=(kd_is (tx.getD i 0)).2.2.2.2.1
  rw [decide_eq_true hk] at h4
  have hc:tx.getD i 0=35:=of_decide_eq_true h4.symm
  have hd:=drop_getD tx i hi
  have hn:notNl (35:UInt8)=true:=by decide
  have hpos:0<wl notNl tx i:=by
    unfold wl
    rw [hd,hc,List.takeWhile_cons_of_pos hn]
    simp
  refine ⟨by omega,hle,run_same ?_ (by omega) hle out⟩
  rw [← drop_wl notNl tx i,hd,hc,List.dropWhile_cons_of_pos hn]
  have e:(35::tx.drop (i+1)).dropWhile isSp=35::tx.drop (i+1):=List.dropWhile_cons_of_neg (by decide)
  rw [skip_cons e,if_pos rfl]
theorem run_tok {tx:List UInt8} {i:Nat} (hi:i<tx.length) (h0:kd (tx.getD i 0)≠0) (h4:kd (tx.getD i 0)≠4) (out:List T):run tx (tx.length - i+1) i out=match nextB (tx.drop i) with
    | none=>.bad (i:Nat) 10
    | some (b,n)=>if out.length=500 then .bad (i:Nat) 6 else run tx (tx.length - (i+n)+1) (i+n) (out++[⟨b.k,b.n,b.s,(i:Nat)⟩]):=by
  have k0:=(kd_is (tx.getD i 0)).1
  have k4:=(kd_is (tx.getD i 0)).2.2.2.2.1
  rw [decide_eq_false h0] at k0
  rw [decide_eq_false h4] at k4
  have hs:skip (tx.drop i)=tx.drop i:=by
    rw [drop_getD tx i hi]
    exact skip_id k0.symm (of_decide_eq_false k4.symm)
  have hsk:sk tx i=i:=by
    unfold sk
    rw [hs,List.length_drop]
    omega
  rw [run,hsk,if_neg (by omega)]
  cases hn:nextB (tx.drop i) with
  | none=>rfl
  | some bn =>
    obtain ⟨b,n⟩:=bn
    have hp:=nextB_pos hn
    rw [List.length_drop] at hp
    dsimp only
    split
    · rfl
    · exact run_more tx _ _ _ _ (by omega) (by omega) (by omega)
def stepN (tx:List UInt8) (i:Nat):Nat:=if kd (tx.getD i 0)=3 then 1 else if kd (tx.getD i 0)=5 then 2 else wl (fun d=>decide (kd d=kd (tx.getD i 0))) tx i
theorem next_step {tx:List UInt8} {i:Nat} (hi:i<tx.length) {b:B} {n:Nat} (h:nextB (tx.drop i)=some (b,n)):n=stepN tx i∧b.k≠0:=by
  rw [next_kd tx i hi] at h
  unfold stepN
  by_cases h1:kd (tx.getD i 0)=1
  · rw [if_pos h1] at h
    rw [h1,if_neg (by decide),if_neg (by decide),kd_L]
    injection h with h;injection h with h2 h3
    exact ⟨h3.symm,by rw [← h2];exact of_decide_eq_true rfl⟩
  rw [if_neg h1] at h
  by_cases h2:kd (tx.getD i 0)=2
  · rw [if_pos h2] at h
    rw [h2,if_neg (by decide),if_neg (by decide),kd_D]
    split at h
    · injection h with h;injection h with h2 h3
      exact ⟨h3.symm,by rw [← h2];exact of_decide_eq_true rfl⟩
    · cases h
  rw [if_neg h2] at h
  by_cases h3:kd (tx.getD i 0)=3
  · rw [if_pos h3] at h
    rw [if_pos h3]
    injection h with h;injection h with h2 h3
    exact ⟨h3.symm,by rw [← h2];exact of_decide_eq_true rfl⟩
  rw [if_neg h3] at h
  rw [if_neg h3]
  split at h
  · rename_i h5
    rw [if_pos h5.1]
    injection h with h;injection h with h2 h3
    exact ⟨h3.symm,by rw [← h2];exact of_decide_eq_true rfl⟩
  · cases h
end Lx
def RLexRun (F:Heap) (q:Lx.O) (r:AV) (m:List Blk):Prop :=
  (∃ l v,q = .ok l∧MemFits m [hpB F,⟨addrOf v,l.flatMap Lx.tokC,.row v 70 4 l.length⟩]∧r.den=(AV.tup [.sl 1 v l.length,.int .i64 0,.int .i64 0]).den) ∨
  (∃ at_ e:Int,q = .bad at_ e∧MemFits m [hpB F]∧r = .tup [.raw (.slice none 0 0),.int .i64 at_,.int .i64 e])
theorem reflex_run (F:Heap) (tx:List UInt8) (hs:tx.length≤4000):NCall Tryd.prog 28 [.str tx] [hpB F] (RLexRun F (Lx.all tx)):=by
  refine ncall_of Tryd.func28 rfl (by decide) ?_
  have h0:Lx.all tx=Lx.run tx (tx.length - 0+1) 0 []:=rfl
  generalize Lx.all tx=q at *
  (repeat' (first|(with_reducible first|(refine hK _ _ ?_;clear hK K)|(refine hB ?_;clear hA hB A B)|(refine hK _ ?_;clear hK K))|((with_reducible refine z25 ?_);intro K hK;(conv=>whnf))|(with_reducible refine z0 ?_)|(((with_reducible refine NIf.decN ?s ?_);case s=>omega)<;>(conv=>whnf))|(with_reducible first|refine z3 ?_|refine z4 ?_|refine z5 ?_|refine z6 ?_)|((with_reducible refine z29 ?_);intro A B hA hB;(conv=>whnf))|(with_reducible first|refine z1 ?_|refine z2 ?_)|((with_reducible refine gF ?_);(refine z33 rfl ?_;intro K hK;(conv=>whnf)))))
  refine st_auto (α:=Nat × List Lx.T × Value) (fun x=>x.1≤tx.length∧x.2.1.length≤500∧q=Lx.run tx (tx.length - x.1+1) x.1 x.2.1) (fun x=>[.keep,.keep,.drop,.drop,.drop,.set (.sl 1 x.2.2 x.2.1.length),.set (.int .i64 x.1),.drop,.drop,.keep,.keep,.keep,.drop,.drop,.drop,.drop,.drop,.drop,.drop,.drop,.drop,.drop,.drop,.drop,.drop,.drop,.drop,.drop,.drop,.drop,.drop,.drop,.drop,.drop,.drop,.drop,.drop,.drop,.drop,.drop,.drop,.drop,.drop,.drop,.drop,.drop,.drop,.drop,.drop,.drop,.drop,.drop,.drop,.drop,.drop,.drop,.drop,.drop,.drop,.keep,.keep,.keep,.keep,.keep,.keep]) (fun x=>[.keep,.set ⟨addrOf x.2.2,x.2.1.flatMap Lx.tokC,.row x.2.2 70 4 x.2.1.length⟩]) (fun x=>tx.length - x.1) (0,[],.slice none 0 0) ⟨Nat.zero_le _,Nat.zero_le _,h0⟩ ?_ (MemFits.nilRow _ _ _) ?_
  · repeat (first|exact FitsSl.nil|refine FitsSl.any ?_|refine FitsSl.cons (Fit1.int (by first | rfl | omega)) ?_|refine FitsSl.cons (Fit1.bool rfl) ?_|refine FitsSl.cons (Fit1.str rfl) ?_|refine FitsSl.cons Fit1.nil_sl ?_)
  (intro ⟨i,out,v⟩ hst;intro K hK;(conv=>whnf);refine hK _ _ ?_;clear hK K)
  dsimp only at hst ⊢
  obtain ⟨hi,hfew,hq⟩:=hst
  have hol:=Lx.tokC_len out
  by_cases hlt:i<tx.length
  · have ck:=refkind_c (tx.getD i 0)
    by_cases k0:Lx.kd (tx.getD i 0)=0
    · rw [k0] at ck
      rw [Lx.run_sp hlt k0] at hq
      (repeat' (first|(with_reducible first|(refine hK _ _ ?_;clear hK K)|(refine hA ?_;clear hA hB A B))|((with_reducible refine z25 ?_);intro K hK;(conv=>whnf))|(with_reducible refine z0 ?_)|((first|((with_reducible refine NV.i64 ?s ?_);case s=>omega)|((with_reducible refine NIf.decY ?s ?_);case s=>first|with_reducible rfl|omega)|(with_reducible refine NN.cast ?_)|((with_reducible refine NH.mk ?s ?_);case s=>(and_intros<;>omega))|((with_reducible refine NCall.isF 61 ?_);refine NCall.pureE (ck) ?_))<;>(conv=>whnf))|(with_reducible first|refine z3 ?_|refine z4 ?_|refine z5 ?_|refine z6 ?_|refine z7 ?_)|((with_reducible refine z29 ?_);intro A B hA hB;(conv=>whnf))|(with_reducible first|refine z1 ?_|refine z2 ?_|refine z10 ?_|refine z11 ?_)))
      refine st_round (i+1,out,v) ⟨hlt,hfew,hq⟩ (by dsimp only;omega) ?_ (MemFits.eq rfl)
      repeat (first|exact FitsSl.nil|refine FitsSl.any ?_|refine FitsSl.cons (Fit1.int (by first | rfl | omega)) ?_|refine FitsSl.cons (Fit1.bool rfl) ?_|refine FitsSl.cons (Fit1.str rfl) ?_|refine FitsSl.cons (Fit1.same (by intro h;cases h) (by with_reducible rfl)) ?_)
    by_cases k4:Lx.kd (tx.getD i 0)=4
    · obtain ⟨r1,r2,r3⟩:=Lx.run_rem hlt k4 out
      have cr:=refremark_c tx i (by omega) (by omega)
      rw [k4] at ck
      rw [r3] at hq
      generalize Lx.wl Lx.notNl tx i=w at *
      (repeat' (first|(with_reducible first|(refine hK _ _ ?_;clear hK K)|(refine hA ?_;clear hA hB A B)|(refine hB ?_;clear hA hB A B))|((with_reducible refine z25 ?_);intro K hK;(conv=>whnf))|(with_reducible refine z0 ?_)|((first|((with_reducible refine NV.i64 ?s ?_);case s=>omega)|((with_reducible refine NIf.decY ?s ?_);case s=>first|with_reducible rfl|omega)|((with_reducible refine NIf.decN ?s ?_);case s=>omega)|(with_reducible refine NN.cast ?_)|((with_reducible refine NH.mk ?s ?_);case s=>(and_intros<;>omega))|((with_reducible refine NCall.isF 61 ?_);refine NCall.pureE (ck) ?_)|((with_reducible refine NCall.isF 62 ?_);refine NCall.pureE (cr) ?_))<;>(conv=>whnf))|(with_reducible first|refine z3 ?_|refine z4 ?_|refine z5 ?_|refine z6 ?_|refine z7 ?_)|((with_reducible refine z29 ?_);intro A B hA hB;(conv=>whnf))|(with_reducible first|refine z1 ?_|refine z2 ?_|refine z10 ?_|refine z11 ?_)))
      refine st_round (i+w,out,v) ⟨r2,hfew,hq⟩ (by dsimp only;omega) ?_ (MemFits.eq rfl)
      repeat (first|exact FitsSl.nil|refine FitsSl.any ?_|refine FitsSl.cons (Fit1.int (by first | rfl | omega)) ?_|refine FitsSl.cons (Fit1.bool rfl) ?_|refine FitsSl.cons (Fit1.str rfl) ?_|refine FitsSl.cons (Fit1.same (by intro h;cases h) (by with_reducible rfl)) ?_)
    rw [Lx.run_tok hlt k0 k4] at hq
    have ct:=reftoken_c tx i hlt (by omega)
    unfold Lx.tokO at ct
    have hstep:=@Lx.next_step tx i hlt
    cases hn:Lx.nextB (tx.drop i) with
    | none =>
      rw [hn] at hq ct
      dsimp only at hq ct
      generalize Lx.kd (tx.getD i 0)=k at *
      (repeat' (first|(with_reducible first|(refine hK _ _ ?_;clear hK K)|(refine hA ?_;clear hA hB A B)|(refine hB ?_;clear hA hB A B)|(refine hK _ ?_;clear hK K))|((with_reducible refine z25 ?_);intro K hK;(conv=>whnf))|(with_reducible refine z0 ?_)|((first|((with_reducible refine NIf.yes ?s ?_);case s=>(simp ;done))|((with_reducible refine NIf.decY ?s ?_);case s=>omega)|((with_reducible refine NIf.decN ?s ?_);case s=>assumption)|(with_reducible first|refine NN.cast ?_|refine NN.a5 ?_)|((with_reducible refine NH.mk ?s ?_);case s=>(and_intros<;>first|with_reducible rfl|((with_reducible refine gOnes ?_);rfl)|((with_reducible refine gLen ?_);rfl)|omega))|((with_reducible refine NCall.isF 61 ?_);refine NCall.pureE (ck) ?_)|((with_reducible refine NCall.isF 63 ?_);refine NCall.pureE (ct) ?_))<;>(conv=>whnf))|(with_reducible first|refine z3 ?_|refine z4 ?_|refine z5 ?_|refine z6 ?_|refine z8 ?_)|((with_reducible refine z29 ?_);intro A B hA hB;(conv=>whnf))|(with_reducible first|refine z1 ?_|refine z2 ?_|refine z12 ?_|refine z13 ?_|refine z20 ?_)|((with_reducible refine gR ?_);(refine z31 rfl ?_;intro K hK;(conv=>whnf)))|((intro _;skip)<;>(conv=>whnf))))
      all_goals exact .inr ⟨_,_,hq,MemFits.pick [0] (by decide) rfl,rfl⟩
    | some bn =>
      obtain ⟨b,n⟩:=bn
      rw [hn] at hq ct
      dsimp only at hq ct
      obtain ⟨hn2,hb0⟩:=hstep hn
      have hp:=Lx.nextB_pos hn
      rw [List.length_drop] at hp
      have cs:=refsame_c tx i hlt (by omega) _ rfl
      unfold Lx.stepN at hn2
      generalize Lx.wl (fun d=>decide (Lx.kd d=Lx.kd (tx.getD i 0))) tx i=w at *
      generalize Lx.kd (tx.getD i 0)=k at *
      by_cases hf:out.length=500
      · rw [if_pos hf] at hq
        (repeat' (first|(with_reducible first|(refine hK _ _ ?_;clear hK K)|(refine hA ?_;clear hA hB A B)|(refine hB ?_;clear hA hB A B)|(refine hK _ ?_;clear hK K))|((with_reducible refine z25 ?_);intro K hK;(conv=>whnf))|(with_reducible refine z0 ?_)|((first|((with_reducible refine NIf.decY ?s ?_);case s=>omega)|((with_reducible refine NIf.decN ?s ?_);case s=>assumption)|(with_reducible first|refine NN.cast ?_|refine NN.a5 ?_)|((with_reducible refine NH.mk ?s ?_);case s=>(and_intros<;>first|with_reducible rfl|((with_reducible refine gOnes ?_);rfl)|((with_reducible refine gLen ?_);rfl)|omega))|((with_reducible refine NCall.isF 61 ?_);refine NCall.pureE (ck) ?_)|((with_reducible refine NCall.isF 63 ?_);refine NCall.pureE (ct) ?_))<;>(conv=>whnf))|(with_reducible first|refine z3 ?_|refine z4 ?_|refine z5 ?_|refine z6 ?_|refine z8 ?_)|((with_reducible refine z29 ?_);intro A B hA hB;(conv=>whnf))|(with_reducible first|refine z1 ?_|refine z2 ?_|refine z12 ?_|refine z13 ?_|refine z20 ?_)|((with_reducible refine gR ?_);(refine z31 rfl ?_;intro K hK;(conv=>whnf)))|((intro _;skip)<;>(conv=>whnf))))
        all_goals exact .inr ⟨_,_,hq,MemFits.pick [0] (by decide) rfl,rfl⟩
      rw [if_neg hf] at hq
      by_cases k3:k=3
      · rw [if_pos k3] at hn2
        subst hn2
        (repeat' (first|(with_reducible first|(refine hK _ _ ?_;clear hK K)|(refine hA ?_;clear hA hB A B)|(refine hB ?_;clear hA hB A B))|((with_reducible refine z25 ?_);intro K hK;(conv=>whnf))|(with_reducible refine z0 ?_)|((first|((with_reducible refine NV.i64 ?s ?_);case s=>omega)|((with_reducible refine NIf.decY ?s ?_);case s=>first|assumption|omega)|((with_reducible refine NIf.decN ?s ?_);case s=>first|assumption|omega)|(with_reducible first|refine NN.cast ?_|refine NN.a5 ?_)|((with_reducible refine NH.mk ?s ?_);case s=>(and_intros<;>first|with_reducible rfl|((with_reducible refine gOnes ?_);rfl)|((with_reducible refine gLen ?_);rfl)|omega))|((with_reducible refine NCall.isF 61 ?_);refine NCall.pureE (ck) ?_)|((with_reducible refine NCall.isF 63 ?_);refine NCall.pureE (ct) ?_))<;>(conv=>whnf))|(with_reducible first|refine z3 ?_|refine z4 ?_|refine z5 ?_|refine z6 ?_)|((with_reducible refine z29 ?_);intro A B hA hB;(conv=>whnf))|(with_reducible first|refine z1 ?_|refine z2 ?_|refine z9 ?_)|((intro _;skip)<;>(conv=>whnf))))
        rename_i v2
        refine st_round (i+1,out++[⟨b.k,b.n,b.s,i⟩],v2) ⟨by dsimp only;omega,by dsimp only;simp;omega,hq⟩ (by dsimp only;omega) ?_ (MemFits.trans (MemFits.pre 2 rfl) (MemFits.eq ?_))
        · repeat (first|exact FitsSl.nil|refine FitsSl.any ?_|refine FitsSl.cons (Fit1.int (by first | rfl | omega)) ?_|refine FitsSl.cons (Fit1.bool rfl) ?_|refine FitsSl.cons (Fit1.str rfl) ?_|refine FitsSl.cons (Fit1.sl rfl) ?_)
        · rw [List.flatMap_append,List.length_append]
          rfl
      by_cases k5:k=5
      · rw [if_neg k3,if_pos k5] at hn2
        subst hn2
        (repeat' (first|(with_reducible first|(refine hK _ _ ?_;clear hK K)|(refine hA ?_;clear hA hB A B)|(refine hB ?_;clear hA hB A B))|((with_reducible refine z25 ?_);intro K hK;(conv=>whnf))|(with_reducible refine z0 ?_)|((first|((with_reducible refine NV.i64 ?s ?_);case s=>omega)|((with_reducible refine NIf.decY ?s ?_);case s=>first|assumption|omega)|((with_reducible refine NIf.decN ?s ?_);case s=>first|assumption|omega)|(with_reducible first|refine NN.cast ?_|refine NN.a5 ?_)|((with_reducible refine NH.mk ?s ?_);case s=>(and_intros<;>first|with_reducible rfl|((with_reducible refine gOnes ?_);rfl)|((with_reducible refine gLen ?_);rfl)|omega))|((with_reducible refine NCall.isF 61 ?_);refine NCall.pureE (ck) ?_)|((with_reducible refine NCall.isF 63 ?_);refine NCall.pureE (ct) ?_))<;>(conv=>whnf))|(with_reducible first|refine z3 ?_|refine z4 ?_|refine z5 ?_|refine z6 ?_)|((with_reducible refine z29 ?_);intro A B hA hB;(conv=>whnf))|(with_reducible first|refine z1 ?_|refine z2 ?_|refine z9 ?_)|((intro _;skip)<;>(conv=>whnf))))
        rename_i v2
        refine st_round (i+2,out++[⟨b.k,b.n,b.s,i⟩],v2) ⟨by dsimp only;omega,by dsimp only;simp;omega,hq⟩ (by dsimp only;omega) ?_ (MemFits.trans (MemFits.pre 2 rfl) (MemFits.eq ?_))
        · repeat (first|exact FitsSl.nil|refine FitsSl.any ?_|refine FitsSl.cons (Fit1.int (by first | rfl | omega)) ?_|refine FitsSl.cons (Fit1.bool rfl) ?_|refine FitsSl.cons (Fit1.str rfl) ?_|refine FitsSl.cons (Fit1.sl rfl) ?_)
        · rw [List.flatMap_append,List.length_append]
          rfl
      · rw [if_neg k3,if_neg k5] at hn2
        subst hn2
        (repeat' (first|(with_reducible first|(refine hK _ _ ?_;clear hK K)|(refine hA ?_;clear hA hB A B)|(refine hB ?_;clear hA hB A B))|((with_reducible refine z25 ?_);intro K hK;(conv=>whnf))|(with_reducible refine z0 ?_)|((first|((with_reducible refine NV.i64 ?s ?_);case s=>omega)|((with_reducible refine NIf.decY ?s ?_);case s=>omega)|((with_reducible refine NIf.decN ?s ?_);case s=>first|assumption|omega)|(with_reducible first|refine NN.cast ?_|refine NN.a5 ?_)|((with_reducible refine NH.mk ?s ?_);case s=>(and_intros<;>first|with_reducible rfl|((with_reducible refine gOnes ?_);rfl)|((with_reducible refine gLen ?_);rfl)|omega))|((with_reducible refine NCall.isF 61 ?_);refine NCall.pureE (ck) ?_)|((with_reducible refine NCall.isF 63 ?_);refine NCall.pureE (ct) ?_)|((with_reducible refine NCall.isF 64 ?_);refine NCall.pureE (cs) ?_))<;>(conv=>whnf))|(with_reducible first|refine z3 ?_|refine z4 ?_|refine z5 ?_|refine z6 ?_)|((with_reducible refine z29 ?_);intro A B hA hB;(conv=>whnf))|(with_reducible first|refine z1 ?_|refine z2 ?_|refine z9 ?_)|((intro _;skip)<;>(conv=>whnf))))
        rename_i v2
        refine st_round (i+n,out++[⟨b.k,b.n,b.s,i⟩],v2) ⟨by dsimp only;omega,by dsimp only;simp;omega,hq⟩ (by dsimp only;omega) ?_ (MemFits.trans (MemFits.pre 2 rfl) (MemFits.eq ?_))
        · repeat (first|exact FitsSl.nil|refine FitsSl.any ?_|refine FitsSl.cons (Fit1.int (by first | rfl | omega)) ?_|refine FitsSl.cons (Fit1.bool rfl) ?_|refine FitsSl.cons (Fit1.str rfl) ?_|refine FitsSl.cons (Fit1.sl rfl) ?_)
        · rw [List.flatMap_append,List.length_append]
          rfl
  · obtain rfl:i=tx.length:=by omega
    have hsk:Lx.sk tx tx.length=tx.length:=by
      have:=Lx.drop_sk tx tx.length (Nat.le_refl _)
      omega
    rw [Lx.run,hsk,if_pos rfl] at hq
    (repeat' (first|(with_reducible first|(refine hK _ _ ?_;clear hK K)|(refine hB ?_;clear hA hB A B)|(refine hK _ ?_;clear hK K))|((with_reducible refine z25 ?_);intro K hK;(conv=>whnf))|(with_reducible refine z0 ?_)|((first|((with_reducible refine NIf.decN ?s ?_);case s=>omega)|((with_reducible refine NH.mk ?s ?_);case s=>(and_intros<;>first|with_reducible rfl|((with_reducible refine gOnes ?_);rfl)|((with_reducible refine gLen ?_);rfl)|omega)))<;>(conv=>whnf))|(with_reducible first|refine z3 ?_|refine z4 ?_|refine z7 ?_|refine z8 ?_)|((with_reducible refine z29 ?_);intro A B hA hB;(conv=>whnf))|(with_reducible first|refine z1 ?_|refine z2 ?_|refine z10 ?_|refine z11 ?_|refine z19 ?_)|((with_reducible refine gR ?_);(refine z31 rfl ?_;intro K hK;(conv=>whnf)))|((intro _;skip)<;>(conv=>whnf))))
    rename_i v2
    all_goals
      refine .inl ⟨_,v2,hq,MemFits.pick [0,1] (by decide) ?_,?_⟩
      · rw [List.flatMap_append,List.length_append]
        rfl
      · simp only [AV.den,denL,slOf,List.length_append,List.length_cons,List.length_nil]
theorem reflex_c (F:Heap) (tx:List UInt8) (hs:tx.length≤4000):NCall Tryd.prog 28 [.str tx] [hpB F] fun r m =>
    (∃ l F' v,Lx.all tx = .ok l∧F.le F'∧m=[hpB F']∧r = .tup [.hs v l.length,.int .i64 0,.int .i64 0]∧RowF F' 4 (fun x vs=>vs=Lx.tokV x) v l) ∨
    (∃ at_ e:Int,Lx.all tx = .bad at_ e∧m=[hpB F]∧r = .tup [.hs (.slice none 0 0) 0,.int .i64 at_,.int .i64 e]):=by
  refine Go.Sx.NCall.know (reflex_run F tx hs) fun r m' h ⟨w,hw⟩=>?_
  rcases h with ⟨l,v,hq,hm,hr⟩ | ⟨at_,e,hq,hm,hr⟩
  · obtain ⟨hok,_,hsl⟩:=(hm w hw).1.row (List.mem_cons_of_mem _ (List.mem_singleton.2 rfl))
    refine ⟨.tup [.hs v l.length,.int .i64 0,.int .i64 0],_,?_,hm.trans (MemFits.freeze (m:=[])),.inl ⟨l,_,v,hq,addF.old,rfl,rfl,rowF_new hok (Lx.tokC_den _) (fun x _=>rfl)⟩⟩
    rw [hr];rfl
  · exact ⟨.tup [.hs (.slice none 0 0) 0,.int .i64 at_,.int .i64 e],_,by rw [hr];rfl,hm,.inr ⟨at_,e,hq,rfl,rfl⟩⟩
end Go.Proofs.YtaojbkphcnailaaDoor
