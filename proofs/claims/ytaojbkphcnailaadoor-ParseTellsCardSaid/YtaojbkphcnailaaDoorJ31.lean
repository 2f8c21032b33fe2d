import Derived.Test.YtaojbkphcnailaaDoorJ23
import Derived.Test.YtaojbkphcnailaaDoorJ30
namespace Go.Proofs.YtaojbkphcnailaaDoor
open Go.Sx
set_option maxRecDepth 20000
set_option linter.unusedSimpArgs false
set_option linter.unusedVariables false
set_option maxHeartbeats 4000000
set_option linter.unusedVariables false
def LexRun (F:Heap) (q:Lx.O) (r:AV) (m:List Blk):Prop :=
  (∃ l v,q = .ok l∧MemFits m [hpB F,⟨addrOf v,l.flatMap Lx.tokC,.row v 94 4 l.length⟩]∧r.den=(AV.tup [.sl 1 v l.length,.int .i64 0,.int .i64 0]).den) ∨
  (∃ at_ e:Int,q = .bad at_ e∧MemFits m [hpB F]∧r = .tup [.raw (.slice none 0 0),.int .i64 at_,.int .i64 e])
theorem lex_run (F:Heap) (tx:List UInt8) (hs:tx.length≤4000):NCall Tryd.prog 55 [.str tx] [hpB F] (LexRun F (Lx.all tx)):=by
  refine ncall_of Tryd.func55 rfl (by decide) ?_
  have h0:Lx.all tx=Lx.run tx (tx.length - 0+1) 0 []:=rfl
  generalize Lx.all tx=q at *
  (repeat' (first|(with_reducible first|(refine hK _ _ ?_;clear hK K)|(refine hB ?_;clear hA hB A B)|(refine hK _ ?_;clear hK K))|((with_reducible refine z25 ?_);intro K hK;(conv=>whnf))|(with_reducible refine z0 ?_)|(((with_reducible refine NIf.decN ?s ?_);case s=>omega)<;>(conv=>whnf))|(with_reducible first|refine z3 ?_|refine z4 ?_|refine z5 ?_|refine z6 ?_)|((with_reducible refine z29 ?_);intro A B hA hB;(conv=>whnf))|(with_reducible first|refine z1 ?_|refine z2 ?_)|((with_reducible refine gF ?_);(refine z33 rfl ?_;intro K hK;(conv=>whnf)))|((intro _;skip)<;>(conv=>whnf))))
  rename_i b0
  refine st_auto (α:=Nat × List Lx.T × Value) (fun x=>x.1≤tx.length∧x.2.1.length≤500∧q=Lx.run tx (tx.length - x.1+1) x.1 x.2.1) (fun x=>[.keep,.keep,.drop,.drop,.drop,.keep,.set (.sl 2 x.2.2 x.2.1.length),.drop,.drop,.keep,.keep,.keep,.keep,.keep,.keep,.drop,.drop,.drop,.drop,.drop,.drop,.drop,.drop,.drop,.drop,.drop,.drop,.drop,.drop,.drop,.drop,.drop,.drop,.drop,.drop,.drop,.drop,.drop,.drop,.drop,.drop,.drop,.drop,.drop,.drop,.drop,.drop,.drop,.drop,.drop,.drop,.drop]) (fun x=>[.keep,.set (LB ⟨b0,0,none⟩ tx x.1),.set ⟨addrOf x.2.2,x.2.1.flatMap Lx.tokC,.row x.2.2 94 4 x.2.1.length⟩]) (fun x=>tx.length - x.1) (0,[],.slice none 0 0) ⟨Nat.zero_le _,Nat.zero_le _,h0⟩ ?_ (MemFits.nilRow _ _ _) ?_
  · repeat (first|exact FitsSl.nil|refine FitsSl.any ?_|refine FitsSl.cons (Fit1.int (by first | rfl | omega)) ?_|refine FitsSl.cons (Fit1.bool rfl) ?_|refine FitsSl.cons (Fit1.str rfl) ?_|refine FitsSl.cons (Fit1.same (by intro h;cases h) (by with_reducible rfl)) ?_|refine FitsSl.cons Fit1.nil_sl ?_)
  (intro ⟨i,out,v⟩ hst;intro K hK;(conv=>whnf);refine hK _ _ ?_;clear hK K)
  dsimp only at hst ⊢
  obtain ⟨hi,hfew,hq⟩:=hst
  obtain ⟨hd,hle,hle2⟩:=Lx.drop_sk tx i hi
  have hsk:=skip_c ⟨b0,0,none⟩ tx i hi (by omega)
  have hol:=Lx.tokC_len out
  rw [Lx.run] at hq
  generalize Lx.sk tx i=j at *
  by_cases hj:j=tx.length
  · rw [if_pos hj] at hq
    subst hj
    (repeat' (first|(with_reducible first|(refine hK _ _ ?_;clear hK K)|(refine hA ?_;clear hA hB A B)|(refine hK _ ?_;clear hK K))|((with_reducible refine z25 ?_);intro K hK;(conv=>whnf))|(with_reducible refine z0 ?_)|((first|((with_reducible refine NIf.decY ?s ?_);case s=>with_reducible rfl)|(with_reducible refine NN.a5 ?_)|((with_reducible refine NH.mk ?s ?_);case s=>(and_intros<;>first|with_reducible rfl|((with_reducible refine gOnes ?_);rfl)|((with_reducible refine gLen ?_);rfl)|omega|rfl))|((with_reducible refine NCall.isF 82 ?_);refine NCall.subE [1] (hsk) rfl (by decide) rfl rfl ?_))<;>(conv=>whnf))|(with_reducible first|refine z3 ?_|refine z4 ?_|refine z5 ?_|refine z8 ?_)|((with_reducible refine z29 ?_);intro A B hA hB;(conv=>whnf))|(with_reducible first|refine z1 ?_|refine z2 ?_|refine z12 ?_|refine z13 ?_|refine z20 ?_)|((with_reducible refine gR ?_);(refine z31 rfl ?_;intro K hK;(conv=>whnf)))|((intro _;skip)<;>(conv=>whnf))))
    rename_i b9 v2
    all_goals
      refine .inl ⟨_,v2,hq,MemFits.pick [0,2] (by decide) ?_,?_⟩
      · rw [List.flatMap_append,List.length_append]
        rfl
      · simp only [AV.den,denL,slOf,List.length_append,List.length_cons,List.length_nil]
  · rw [if_neg hj] at hq
    have hjl:j<tx.length:=by omega
    have hnx:=next_c ⟨b0,0,none⟩ tx j hjl (by omega)
    cases hn:Lx.nextB (tx.drop j) with
    | none =>
      rw [hn] at hq
      have hnx:=hnx.mono (K':=fun r m=>r = .tup [tokAV 0 0 [] j,.bool false]∧∃ q,MemFits m [LB ⟨b0,0,none⟩ tx q]) fun r m h=>h.2 hn
      have hnx:NCall Tryd.prog 83 [.ptr 0 ⟨b0,0,none⟩ 0] [LB ⟨b0,0,none⟩ tx j] fun r m=>r = .tup [tokAV 0 0 [] j,.bool false]∧∃ q,m=[LB ⟨b0,0,none⟩ tx q]:=hnx.fits fun r m h=>by
        obtain ⟨h1,q,h2⟩:=h
        exact ⟨r,_,rfl,h2,h1,q,rfl⟩
      unfold tokAV at hnx
      (repeat' (first|(with_reducible first|(refine hK _ _ ?_;clear hK K)|(refine hA ?_;clear hA hB A B)|(refine hB ?_;clear hA hB A B)|(refine hK _ ?_;clear hK K))|((with_reducible refine z25 ?_);intro K hK;(conv=>whnf))|(with_reducible refine z0 ?_)|((with_reducible refine z27 ?_);intro K hK;(conv=>whnf))|(with_reducible refine z24 ?_)|((first|with_reducible refine NIf.not_ ?_|((with_reducible refine NIf.decN ?s ?_);case s=>omega)|((with_reducible refine NIf.no ?s ?_);case s=>rfl)|(with_reducible refine NN.a5 ?_)|((with_reducible refine NH.mk ?s ?_);case s=>(and_intros<;>first|with_reducible rfl|((with_reducible refine gOnes ?_);rfl)|((with_reducible refine gLen ?_);rfl)|rfl))|((with_reducible refine NCall.isF 82 ?_);refine NCall.subE [1] (hsk) rfl (by decide) rfl rfl ?_)|((with_reducible refine NCall.isF 83 ?_);refine NCall.subw [1] _ _ (hnx) rfl (by decide) rfl ?_;rintro _ _ ⟨rfl,q,rfl⟩;refine ⟨Nat.le_of_ble_eq_true rfl,_,rfl,?_⟩))<;>(conv=>whnf))|((with_reducible refine gX ?_);(first|(with_reducible first|refine z3 ?_|refine z4 ?_|refine z5 ?_|refine z6 ?_|refine z8 ?_)|((with_reducible refine z29 ?_);intro A B hA hB;(conv=>whnf))|refine z34 (by kernel_rfl) (by kernel_rfl) ?_))|(with_reducible first|refine z1 ?_|refine z2 ?_|refine z12 ?_|refine z13 ?_|refine z20 ?_)|((with_reducible refine gR ?_);(refine z31 rfl ?_;intro K hK;(conv=>whnf)))|((intro _;skip)<;>(conv=>whnf))))
      all_goals exact .inr ⟨_,_,hq,MemFits.pick [0] (by decide) rfl,rfl⟩
    | some bn =>
      obtain ⟨b,n⟩:=bn
      have hp:=Lx.nextB_pos hn
      rw [List.length_drop] at hp
      rw [hn] at hq
      dsimp only at hq
      have hnx:NCall Tryd.prog 83 [.ptr 0 ⟨b0,0,none⟩ 0] [LB ⟨b0,0,none⟩ tx j] fun r m=>r = .tup [tokAV b.k b.n b.s j,.bool true]∧m=[LB ⟨b0,0,none⟩ tx (j+n)]:=hnx.fits fun r m h=>by
        obtain ⟨h5,h6⟩:=h.1 b n hn
        exact ⟨r,_,rfl,h6,h5,rfl⟩
      unfold tokAV at hnx
      by_cases hf:out.length=500
      · rw [if_pos hf] at hq
        (repeat' (first|(with_reducible first|(refine hK _ _ ?_;clear hK K)|(refine hA ?_;clear hA hB A B)|(refine hB ?_;clear hA hB A B)|(refine hK _ ?_;clear hK K))|((with_reducible refine z25 ?_);intro K hK;(conv=>whnf))|(with_reducible refine z0 ?_)|((with_reducible refine z27 ?_);intro K hK;(conv=>whnf))|(with_reducible refine z24 ?_)|((first|with_reducible refine NIf.not_ ?_|((with_reducible refine NIf.decY ?s ?_);case s=>omega)|((with_reducible refine NIf.decN ?s ?_);case s=>omega)|((with_reducible refine NIf.yes ?s ?_);case s=>rfl)|(with_reducible refine NN.a5 ?_)|((with_reducible refine NH.mk ?s ?_);case s=>(and_intros<;>first|with_reducible rfl|((with_reducible refine gOnes ?_);rfl)|((with_reducible refine gLen ?_);rfl)|rfl))|((with_reducible refine NCall.isF 82 ?_);refine NCall.subE [1] (hsk) rfl (by decide) rfl rfl ?_)|((with_reducible refine NCall.isF 83 ?_);refine NCall.subE [1] (hnx) rfl (by decide) rfl rfl ?_))<;>(conv=>whnf))|((with_reducible refine gX ?_);(first|(with_reducible first|refine z3 ?_|refine z4 ?_|refine z5 ?_|refine z6 ?_|refine z8 ?_)|((with_reducible refine z29 ?_);intro A B hA hB;(conv=>whnf))|refine z34 (by kernel_rfl) (by kernel_rfl) ?_))|(with_reducible first|refine z1 ?_|refine z2 ?_|refine z12 ?_|refine z13 ?_|refine z20 ?_)|((with_reducible refine gR ?_);(refine z31 rfl ?_;intro K hK;(conv=>whnf)))|((intro _;skip)<;>(conv=>whnf))))
        all_goals exact .inr ⟨_,_,hq,MemFits.pick [0] (by decide) rfl,rfl⟩
      · rw [if_neg hf,Lx.run_more tx _ (tx.length - (j+n)+1) _ _ (by omega) (by omega) (by omega)] at hq
        (repeat' (first|(with_reducible first|(refine hK _ _ ?_;clear hK K)|(refine hB ?_;clear hA hB A B))|((with_reducible refine z25 ?_);intro K hK;(conv=>whnf))|(with_reducible refine z0 ?_)|((first|with_reducible refine NIf.not_ ?_|((with_reducible refine NIf.decN ?s ?_);case s=>omega)|((with_reducible refine NIf.yes ?s ?_);case s=>rfl)|(with_reducible refine NN.a5 ?_)|((with_reducible refine NH.mk ?s ?_);case s=>(and_intros<;>first|with_reducible rfl|((with_reducible refine gOnes ?_);rfl)|((with_reducible refine gLen ?_);rfl)|omega|rfl))|((with_reducible refine NCall.isF 82 ?_);refine NCall.subE [1] (hsk) rfl (by decide) rfl rfl ?_)|((with_reducible refine NCall.isF 83 ?_);refine NCall.subE [1] (hnx) rfl (by decide) rfl rfl ?_))<;>(conv=>whnf))|(with_reducible first|refine z3 ?_|refine z4 ?_|refine z5 ?_|refine z6 ?_)|((with_reducible refine z29 ?_);intro A B hA hB;(conv=>whnf))|(with_reducible first|refine z1 ?_|refine z2 ?_|refine z9 ?_)|((intro _;skip)<;>(conv=>whnf))))
        rename_i v2
        refine st_round (j+n,out++[⟨b.k,b.n,b.s,j⟩],v2) ⟨by dsimp only;omega,by dsimp only;simp;omega,hq⟩ (by dsimp only;omega) ?_ (MemFits.trans (MemFits.pre 3 rfl) (MemFits.eq ?_))
        · repeat (first|exact FitsSl.nil|refine FitsSl.any ?_|refine FitsSl.cons (Fit1.int (by first | rfl | omega)) ?_|refine FitsSl.cons (Fit1.bool rfl) ?_|refine FitsSl.cons (Fit1.str rfl) ?_|refine FitsSl.cons (Fit1.same (by intro h;cases h) (by with_reducible rfl)) ?_|refine FitsSl.cons (Fit1.sl rfl) ?_)
        · rw [List.flatMap_append,List.length_append]
          rfl
theorem lexall_c (F:Heap) (tx:List UInt8) (hs:tx.length≤4000):NCall Tryd.prog 55 [.str tx] [hpB F] fun r m =>
    (∃ l F' v,Lx.all tx = .ok l∧F.le F'∧m=[hpB F']∧r = .tup [.hs v l.length,.int .i64 0,.int .i64 0]∧RowF F' 4 (fun x vs=>vs=Lx.tokV x) v l) ∨
    (∃ at_ e:Int,Lx.all tx = .bad at_ e∧m=[hpB F]∧r = .tup [.hs (.slice none 0 0) 0,.int .i64 at_,.int .i64 e]):=by
  refine Go.Sx.NCall.know (lex_run F tx hs) fun r m' h ⟨w,hw⟩=>?_
  rcases h with ⟨l,v,hq,hm,hr⟩ | ⟨at_,e,hq,hm,hr⟩
  · obtain ⟨hok,_,hsl⟩:=(hm w hw).1.row (List.mem_cons_of_mem _ (List.mem_singleton.2 rfl))
    refine ⟨.tup [.hs v l.length,.int .i64 0,.int .i64 0],_,?_,hm.trans (MemFits.freeze (m:=[])),.inl ⟨l,_,v,hq,addF.old,rfl,rfl,rowF_new hok (Lx.tokC_den _) (fun x _=>rfl)⟩⟩
    rw [hr];rfl
  · exact ⟨.tup [.hs (.slice none 0 0) 0,.int .i64 at_,.int .i64 e],_,by rw [hr];rfl,hm,.inr ⟨at_,e,hq,rfl,rfl⟩⟩
end Go.Proofs.YtaojbkphcnailaaDoor
namespace Go.Proofs.YtaojbkphcnailaaDoor
open Go.Sx
set_option maxRecDepth 20000
set_option linter.unusedSimpArgs false
set_option linter.unusedVariables false
set_option maxHeartbeats 4000000
set_option linter.unusedVariables false
namespace Ps
def out {α:Type} (z:α) (q:List Lx.B→R α):Lx.O→α × Int × Int
  | .bad a e=>(z,a,e)
  | .ok l=>match whole (l.map Lx.b) (q (l.map Lx.b)) with
    | .ok x _=>(x,0,0)
    | .bad j=>(z,(l[j]?.getD ⟨4,0,[],0⟩).at_,10)
def zero27:Po.T:=.mk 0 none26 0 0 []
def q27 (l:List Lx.B):R Po.T:=rows l (step l l.length) 0
def q26 (l:List Lx.B):R Pd.T:=cond l (part l l.length) 0
def out27 (tx:List UInt8):Po.T × Int × Int:=out zero27 q27 (Lx.all tx)
def out26 (tx:List UInt8):Pd.T × Int × Int:=out none26 q26 (Lx.all tx)
theorem nil26 (G:Heap):Pd.Row G (.slice none 0 0) []:=RowF.nil
theorem nil27 (G:Heap):Po.Row G (.slice none 0 0) []:=RowF.nil
end Ps
theorem whole27_bad (g:FuncId) (tx:List UInt8) (hs:tx.length≤4000) (a e:Int) (hb:Lx.all tx = .bad a e) (he:e≠0) (F:Heap) :
    NCall Tryd.prog 25 [.str tx,.fn g [] []] [hpB F] fun r m=>r = .tup [.agg [.int .i64 0,.int .i64 0,.int .i64 0,.int .i64 0,.raw (.slice none 0 0),.int .i64 0,.int .i64 0,.raw (.slice none 0 0)],.int .i64 a,.int .i64 e]∧m=[hpB F]:=by
  refine NCall.fits (K:=fun r m=>r.den=(AV.tup [.agg [.int .i64 0,.int .i64 0,.int .i64 0,.int .i64 0,.raw (.slice none 0 0),.int .i64 0,.int .i64 0,.raw (.slice none 0 0)],.int .i64 a,.int .i64 e]).den∧MemFits m [hpB F]) ?_ fun r m' hq=>⟨_,_,hq.1.symm,hq.2,rfl,rfl⟩
  have clex:NCall Tryd.prog 55 [.str tx] [hpB F] fun r m=>m=[hpB F]∧r = .tup [.hs (.slice none 0 0) 0,.int .i64 a,.int .i64 e]:=(lexall_c F tx hs).mono fun r m h=>by
    rcases h with ⟨l,F',v,h1,_⟩ | ⟨a',e',h1,h2,h3⟩
    · rw [hb] at h1;cases h1
    · rw [hb] at h1
      cases h1
      exact ⟨h2,h3⟩
  refine ncall_deferred Tryd.func25 rfl (by decide) (fun K hK=>?_)
  conv=>whnf
  refine hK _ ?_
  clear hK K
  refine ny_seq (ny_X ?_)
  (repeat' (first|(with_reducible (refine hK _ _ ?_;clear hP hK Kp K))|((with_reducible refine st_opX ?_);intro K Kp hK hP;(conv=>whnf))|(with_reducible first|refine st_nilX ?_|refine st_regionX ?_)|((intro _;skip)<;>(conv=>whnf))))
  refine ny_seq (ny_X ?_)
  (repeat' (first|(with_reducible (refine hK _ _ ?_;clear hP hK Kp K))|((with_reducible refine st_opX ?_);intro K Kp hK hP;(conv=>whnf))|(with_reducible refine st_nilX ?_)|((first|((with_reducible refine NH.mk ?s ?_);case s=>(and_intros<;>first|with_reducible rfl|((with_reducible refine gOnes ?_);rfl)|((with_reducible refine gLen ?_);rfl)))|((with_reducible refine gCX ?_);(refine NCallX.of ?_;((with_reducible refine NCall.isF 55 ?_);refine NCall.subw [0] _ _ (clex) rfl (by decide) rfl ?_;rintro _ _ ⟨rfl,rfl⟩;refine ⟨Nat.le_of_ble_eq_true rfl,_,rfl,?_⟩))))<;>(conv=>whnf))|(with_reducible refine st_regionX ?_)))
  refine ny_seq (ny_X ?_)
  (repeat' (first|(with_reducible first|(refine hK _ _ ?_;clear hP hK Kp K)|(refine hA ?_;clear hA hB A B))|((with_reducible refine st_opX ?_);intro K Kp hK hP;(conv=>whnf))|(with_reducible refine st_nilX ?_)|((first|with_reducible refine NIf.not_ ?_|((with_reducible refine NIf.decN ?s ?_);case s=>assumption)|((with_reducible refine NH.mk ?s ?_);case s=>(and_intros<;>first|with_reducible rfl|((with_reducible refine gOnes ?_);rfl)|((with_reducible refine gLen ?_);rfl))))<;>(conv=>whnf))|((with_reducible refine gNOX ?_);(first|refine st_ord0X rfl (by kernel_rfl) ?_|refine st_ordAX rfl (by kernel_rfl) (by intro h;cases h) ?_))|((with_reducible refine gNEX ?_);(first|(refine st_eachX ?_ ?_;(intro K Kp hK hP;(conv=>whnf)))|exact st_eachX0))|((with_reducible refine gXX ?_);(first|(with_reducible first|refine st_seqX ?_|refine st_regionX ?_|refine st_retX ?_)|((with_reducible refine st_condX ?_);intro A B hA hB;(conv=>whnf))|refine st_orderX (by kernel_rfl) _ rfl ?_))|(with_reducible refine st_thenX ?_)))
  all_goals (refine nend_nil ?_;conv=>whnf)
  all_goals (repeat' (((((with_reducible refine gH ?_);((with_reducible refine NH.mk ?s ?_);case s=>(and_intros<;>with_reducible rfl))))<;>(conv=>whnf))))
  all_goals exact ⟨rfl,MemFits.pre 1 rfl⟩
theorem parse27_bad (tx:List UInt8) (hs:tx.length≤4000) (a e:Int) (hb:Lx.all tx = .bad a e) (he:e≠0) (F:Heap) :
    NCall Tryd.prog 7 [.str tx] [hpB F] fun r m=>r = .tup [.agg [.int .i64 0,.int .i64 0,.int .i64 0,.int .i64 0,.raw (.slice none 0 0),.int .i64 0,.int .i64 0,.raw (.slice none 0 0)],.int .i64 a,.int .i64 e]∧m=[hpB F]:=by
  refine NCall.fits (K:=fun r m=>r.den=(AV.tup [.agg [.int .i64 0,.int .i64 0,.int .i64 0,.int .i64 0,.raw (.slice none 0 0),.int .i64 0,.int .i64 0,.raw (.slice none 0 0)],.int .i64 a,.int .i64 e]).den∧MemFits m [hpB F]) ?_ fun r m' hq=>⟨_,_,hq.1.symm,hq.2,rfl,rfl⟩
  have cw:=whole27_bad 26 tx hs a e hb he F
  refine ncall_of Tryd.func7 rfl (by decide) ?_
  (repeat' (first|(with_reducible first|(refine hK _ _ ?_;clear hK K)|(refine hK _ ?_;clear hK K))|((with_reducible refine z25 ?_);intro K hK;(conv=>whnf))|(with_reducible refine z0 ?_)|((first|((with_reducible refine NH.mk ?s ?_);case s=>(and_intros<;>first|with_reducible rfl|((with_reducible refine gOnes ?_);rfl)|((with_reducible refine gLen ?_);rfl)))|((with_reducible refine NCall.isF 25 ?_);refine NCall.subw [0] _ _ (cw) rfl (by decide) rfl ?_;rintro _ _ ⟨rfl,rfl⟩;refine ⟨Nat.le_of_ble_eq_true rfl,_,rfl,?_⟩))<;>(conv=>whnf))|(with_reducible first|refine z3 ?_|refine z4 ?_|refine z8 ?_|refine z1 ?_|refine z2 ?_)|((with_reducible refine gR ?_);(refine z31 rfl ?_;intro K hK;(conv=>whnf)))|((with_reducible refine gF ?_);(refine z33 rfl ?_;intro K hK;(conv=>whnf)))|((intro _;skip)<;>(conv=>whnf))))
  all_goals exact ⟨rfl,MemFits.pre 1 rfl⟩
theorem parse27_all (tx:List UInt8) (hs:tx.length≤4000) (F:Heap) :
    NCall Tryd.prog 7 [.str tx] [hpB F] fun r m=>∃ G pu u,F.le G∧Po.At G (Ps.out27 tx).1 pu u∧r = .tup [.agg (Po.cs (Ps.out27 tx).1 pu u),.int .i64 (Ps.out27 tx).2.1,.int .i64 (Ps.out27 tx).2.2]∧m=[hpB G]:=by
  have bad:∀ a e,Lx.all tx = .bad a e→e≠0→NCall Tryd.prog 7 [.str tx] [hpB F] fun r m=>∃ G pu u,F.le G∧Po.At G (Ps.out27 tx).1 pu u∧r = .tup [.agg (Po.cs (Ps.out27 tx).1 pu u),.int .i64 (Ps.out27 tx).2.1,.int .i64 (Ps.out27 tx).2.2]∧m=[hpB G]:=fun a e hb he=>by
    refine NCall.fits (parse27_bad tx hs a e hb he F) fun r m ⟨h1,h2⟩=>?_
    have ho:Ps.out27 tx=(Ps.zero27,a,e):=by unfold Ps.out27;rw [hb];rfl
    rw [ho,h1,h2]
    exact ⟨.tup [.agg (Po.cs Ps.zero27 (.slice none 0 0) (.slice none 0 0)),.int .i64 _,.int .i64 _],_,rfl,MemFits.eq rfl,F,_,_,F.le_refl,⟨Ps.nil26 _,Ps.nil27 _⟩,rfl,rfl⟩
  rcases Lx.all_cases tx with ⟨L,hL,hl,ha⟩ | ⟨_,a,hb⟩ | ⟨_,a,hb⟩
  · refine NCall.fits (parse27_c tx hs L hL hl F) fun r m h=>?_
    have ho:Ps.out27 tx=Ps.out Ps.zero27 Ps.q27 (.ok (Lx.res tx L)):=by unfold Ps.out27;rw [ha]
    rcases h with ⟨x,G,pu,u,h1,h2,h3,h4,h5⟩ | ⟨j,y,G,h1,h2,h3,h4,h5⟩
    · have ho:Ps.out27 tx=(x,0,0):=by
        rw [ho,Ps.out]
        unfold Ps.q27
        rw [h1]
      rw [ho,h4,h5]
      exact ⟨_,_,rfl,MemFits.eq rfl,G,pu,u,h2,h3,rfl,rfl⟩
    · have ho:Ps.out27 tx=(Ps.zero27,y.at_,10):=by
        rw [ho,Ps.out]
        unfold Ps.q27
        rw [h1]
        dsimp only
        rw [h2]
        rfl
      rw [ho,h4,h5]
      exact ⟨.tup [.agg (Po.cs Ps.zero27 (.slice none 0 0) (.slice none 0 0)),.int .i64 _,.int .i64 _],_,rfl,MemFits.eq rfl,G,_,_,h3,⟨Ps.nil26 _,Ps.nil27 _⟩,rfl,rfl⟩
  · exact bad a 10 hb (by decide)
  · exact bad a 6 hb (by decide)
theorem whole26_bad (g:FuncId) (tx:List UInt8) (hs:tx.length≤4000) (a e:Int) (hb:Lx.all tx = .bad a e) (he:e≠0) (F:Heap) :
    NCall Tryd.prog 30 [.str tx,.fn g [] []] [hpB F] fun r m=>r = .tup [.agg [.int .i64 0,.int .i64 0,.int .i64 0,.raw (.slice none 0 0)],.int .i64 a,.int .i64 e]∧m=[hpB F]:=by
  refine NCall.fits (K:=fun r m=>r.den=(AV.tup [.agg [.int .i64 0,.int .i64 0,.int .i64 0,.raw (.slice none 0 0)],.int .i64 a,.int .i64 e]).den∧MemFits m [hpB F]) ?_ fun r m' hq=>⟨_,_,hq.1.symm,hq.2,rfl,rfl⟩
  have clex:NCall Tryd.prog 55 [.str tx] [hpB F] fun r m=>m=[hpB F]∧r = .tup [.hs (.slice none 0 0) 0,.int .i64 a,.int .i64 e]:=(lexall_c F tx hs).mono fun r m h=>by
    rcases h with ⟨l,F',v,h1,_⟩ | ⟨a',e',h1,h2,h3⟩
    · rw [hb] at h1;cases h1
    · rw [hb] at h1
      cases h1
      exact ⟨h2,h3⟩
  refine ncall_deferred Tryd.func30 rfl (by decide) (fun K hK=>?_)
  conv=>whnf
  refine hK _ ?_
  clear hK K
  refine ny_seq (ny_X ?_)
  (repeat' (first|(with_reducible (refine hK _ _ ?_;clear hP hK Kp K))|((with_reducible refine st_opX ?_);intro K Kp hK hP;(conv=>whnf))|(with_reducible first|refine st_nilX ?_|refine st_regionX ?_)|((intro _;skip)<;>(conv=>whnf))))
  refine ny_seq (ny_X ?_)
  (repeat' (first|(with_reducible (refine hK _ _ ?_;clear hP hK Kp K))|((with_reducible refine st_opX ?_);intro K Kp hK hP;(conv=>whnf))|(with_reducible refine st_nilX ?_)|((first|((with_reducible refine NH.mk ?s ?_);case s=>(and_intros<;>first|with_reducible rfl|((with_reducible refine gOnes ?_);rfl)|((with_reducible refine gLen ?_);rfl)))|((with_reducible refine gCX ?_);(refine NCallX.of ?_;((with_reducible refine NCall.isF 55 ?_);refine NCall.subw [0] _ _ (clex) rfl (by decide) rfl ?_;rintro _ _ ⟨rfl,rfl⟩;refine ⟨Nat.le_of_ble_eq_true rfl,_,rfl,?_⟩))))<;>(conv=>whnf))|(with_reducible refine st_regionX ?_)))
  refine ny_seq (ny_X ?_)
  (repeat' (first|(with_reducible first|(refine hK _ _ ?_;clear hP hK Kp K)|(refine hA ?_;clear hA hB A B))|((with_reducible refine st_opX ?_);intro K Kp hK hP;(conv=>whnf))|(with_reducible refine st_nilX ?_)|((first|with_reducible refine NIf.not_ ?_|((with_reducible refine NIf.decN ?s ?_);case s=>assumption)|((with_reducible refine NH.mk ?s ?_);case s=>(and_intros<;>first|with_reducible rfl|((with_reducible refine gOnes ?_);rfl)|((with_reducible refine gLen ?_);rfl))))<;>(conv=>whnf))|((with_reducible refine gNOX ?_);(first|refine st_ord0X rfl (by kernel_rfl) ?_|refine st_ordAX rfl (by kernel_rfl) (by intro h;cases h) ?_))|((with_reducible refine gNEX ?_);(first|(refine st_eachX ?_ ?_;(intro K Kp hK hP;(conv=>whnf)))|exact st_eachX0))|((with_reducible refine gXX ?_);(first|(with_reducible first|refine st_seqX ?_|refine st_regionX ?_|refine st_retX ?_)|((with_reducible refine st_condX ?_);intro A B hA hB;(conv=>whnf))|refine st_orderX (by kernel_rfl) _ rfl ?_))|(with_reducible refine st_thenX ?_)))
  all_goals (refine nend_nil ?_;conv=>whnf)
  all_goals (repeat' (((((with_reducible refine gH ?_);((with_reducible refine NH.mk ?s ?_);case s=>(and_intros<;>with_reducible rfl))))<;>(conv=>whnf))))
  all_goals exact ⟨rfl,MemFits.pre 1 rfl⟩
theorem parse26_bad (tx:List UInt8) (hs:tx.length≤4000) (a e:Int) (hb:Lx.all tx = .bad a e) (he:e≠0) (F:Heap) :
    NCall Tryd.prog 11 [.str tx] [hpB F] fun r m=>r = .tup [.agg [.int .i64 0,.int .i64 0,.int .i64 0,.raw (.slice none 0 0)],.int .i64 a,.int .i64 e]∧m=[hpB F]:=by
  refine NCall.fits (K:=fun r m=>r.den=(AV.tup [.agg [.int .i64 0,.int .i64 0,.int .i64 0,.raw (.slice none 0 0)],.int .i64 a,.int .i64 e]).den∧MemFits m [hpB F]) ?_ fun r m' hq=>⟨_,_,hq.1.symm,hq.2,rfl,rfl⟩
  have cw:=whole26_bad 31 tx hs a e hb he F
  refine ncall_of Tryd.func11 rfl (by decide) ?_
  (repeat' (first|(with_reducible first|(refine hK _ _ ?_;clear hK K)|(refine hK _ ?_;clear hK K))|((with_reducible refine z25 ?_);intro K hK;(conv=>whnf))|(with_reducible refine z0 ?_)|((first|((with_reducible refine NH.mk ?s ?_);case s=>(and_intros<;>first|with_reducible rfl|((with_reducible refine gOnes ?_);rfl)|((with_reducible refine gLen ?_);rfl)))|((with_reducible refine NCall.isF 30 ?_);refine NCall.subw [0] _ _ (cw) rfl (by decide) rfl ?_;rintro _ _ ⟨rfl,rfl⟩;refine ⟨Nat.le_of_ble_eq_true rfl,_,rfl,?_⟩))<;>(conv=>whnf))|(with_reducible first|refine z3 ?_|refine z4 ?_|refine z8 ?_|refine z1 ?_|refine z2 ?_)|((with_reducible refine gR ?_);(refine z31 rfl ?_;intro K hK;(conv=>whnf)))|((with_reducible refine gF ?_);(refine z33 rfl ?_;intro K hK;(conv=>whnf)))|((intro _;skip)<;>(conv=>whnf))))
  all_goals exact ⟨rfl,MemFits.pre 1 rfl⟩
theorem parse26_all (tx:List UInt8) (hs:tx.length≤4000) (F:Heap) :
    NCall Tryd.prog 11 [.str tx] [hpB F] fun r m=>∃ G u,F.le G∧Pd.Row G u (Ps.out26 tx).1.l∧r = .tup [.agg (Pd.cs (Ps.out26 tx).1 u),.int .i64 (Ps.out26 tx).2.1,.int .i64 (Ps.out26 tx).2.2]∧m=[hpB G]:=by
  have bad:∀ a e,Lx.all tx = .bad a e→e≠0→NCall Tryd.prog 11 [.str tx] [hpB F] fun r m=>∃ G u,F.le G∧Pd.Row G u (Ps.out26 tx).1.l∧r = .tup [.agg (Pd.cs (Ps.out26 tx).1 u),.int .i64 (Ps.out26 tx).2.1,.int .i64 (Ps.out26 tx).2.2]∧m=[hpB G]:=fun a e hb he=>by
    refine NCall.fits (parse26_bad tx hs a e hb he F) fun r m ⟨h1,h2⟩=>?_
    have ho:Ps.out26 tx=(Ps.none26,a,e):=by unfold Ps.out26;rw [hb];rfl
    rw [ho,h1,h2]
    exact ⟨.tup [.agg (Pd.cs Ps.none26 (.slice none 0 0)),.int .i64 _,.int .i64 _],_,rfl,MemFits.eq rfl,F,_,F.le_refl,Ps.nil26 _,rfl,rfl⟩
  rcases Lx.all_cases tx with ⟨L,hL,hl,ha⟩ | ⟨_,a,hb⟩ | ⟨_,a,hb⟩
  · refine NCall.fits (parse26_c tx hs L hL hl F) fun r m h=>?_
    have ho:Ps.out26 tx=Ps.out Ps.none26 Ps.q26 (.ok (Lx.res tx L)):=by unfold Ps.out26;rw [ha]
    rcases h with ⟨x,G,u,h1,h2,h3,h4,h5⟩ | ⟨j,y,G,h1,h2,h3,h4,h5⟩
    · have ho:Ps.out26 tx=(x,0,0):=by
        rw [ho,Ps.out]
        unfold Ps.q26
        rw [h1]
      rw [ho,h4,h5]
      exact ⟨_,_,rfl,MemFits.eq rfl,G,u,h2,h3,rfl,rfl⟩
    · have ho:Ps.out26 tx=(Ps.none26,y.at_,10):=by
        rw [ho,Ps.out]
        unfold Ps.q26
        rw [h1]
        dsimp only
        rw [h2]
        rfl
      rw [ho,h4,h5]
      exact ⟨.tup [.agg (Pd.cs Ps.none26 (.slice none 0 0)),.int .i64 _,.int .i64 _],_,rfl,MemFits.eq rfl,G,_,h3,Ps.nil26 _,rfl,rfl⟩
  · exact bad a 10 hb (by decide)
  · exact bad a 6 hb (by decide)
end Go.Proofs.YtaojbkphcnailaaDoor
