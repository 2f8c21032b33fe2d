import Derived.Test.YtgphhbadnjfbjaaDoorSu18
import Derived.Test.YtgphhbadnjfbjaaDoorDig
namespace Go.Proofs.YtgphhbadnjfbjaaDoor
open Go.Sx
set_option maxRecDepth 20000
set_option linter.unusedSimpArgs false
set_option linter.unusedVariables false
set_option maxHeartbeats 4000000
set_option linter.unusedVariables false
namespace Su
theorem hex_piece:∀ u:Nat,u<16→([48,49,50,51,52,53,54,55,56,57,97,98,99,100,101,102].drop u).take (u+1 - u)=[hx u]:=by decide +kernel
end Su
theorem refbits40_c (n:Nat) (hn:n<18446744073709551616):NCall Tryd.prog 29 [.int .u64 n] [] fun r _=>r = .str (Su.bits n):=by
  unfold Su.bits
  refine ncall_of Tryd.func29 rfl (by decide) ?_
  (repeat' (first|(with_reducible first|(refine hK _ _ ?_;clear hK K)|(refine hK _ ?_;clear hK K))|((with_reducible refine z25 ?_);intro K hK;(conv=>whnf))|(with_reducible first|refine z0 ?_|refine z3 ?_|refine z4 ?_|refine z5 ?_|refine z1 ?_|refine z2 ?_)|((with_reducible refine gF ?_);(refine z33 rfl ?_;intro K hK;(conv=>whnf)))))
  refine st_auto (α:=Nat × Nat × List UInt8) (fun (i,q,t)=>i≤16∧q<18446744073709551616∧t.length=i∧Su.bitsN 16 n=Su.bitsN (16 - i) q++t) (fun (i,q,t)=>[.set (.int .u64 q),.keep,.set (.str []),.set (.str t),.set (.int .i64 i),.drop,.drop,.drop,.drop,.drop,.drop,.drop,.drop,.drop,.drop,.drop,.drop,.drop,.drop,.drop,.drop,.keep]) (fun _=>[]) (fun (i,q,t)=>16 - i) (0,n,[]) ⟨by decide,hn,rfl,by simp⟩ ?_ ?_ ?_
  · repeat (first|exact FitsSl.nil|refine FitsSl.any ?_|refine FitsSl.cons (Fit1.int (by first | rfl | omega)) ?_|refine FitsSl.cons (Fit1.str rfl) ?_)
  · exact MemFits.eq rfl
  (intro ⟨i,q,t⟩ ⟨hi,hq,htl,he⟩;intro K hK;(conv=>whnf);refine hK _ _ ?_;clear hK K)
  dsimp only at hi hq htl he ⊢
  by_cases hlt:i<16
  · have e2:(q:Int).tmod 16=((q % 16:Nat):Int):=by rw [Int.tmod_eq_emod_of_nonneg (by omega)];omega
    have hm:q % 16<16:=Nat.mod_lt _ (by decide)
    have hb:Su.bitsN (16 - i) q=Su.bitsN (16 - (i+1)) (q / 16)++[Su.hx (q % 16)]:=by
      rw [show 16 - i=(16 - (i+1))+1 by omega,Su.bitsN]
    have hd:(q:Int) / 16=((q / 16:Nat):Int):=by omega
    have hq2:q / 16<18446744073709551616:=by omega
    rw [hb] at he
    generalize q % 16=d at *
    have e:=Su.hex_piece d hm
    generalize Su.hx d=y at *
    (repeat' (first|(with_reducible first|(refine hK _ _ ?_;clear hK K)|(refine hA ?_;clear hA hB A B))|((with_reducible refine z25 ?_);intro K hK;(conv=>whnf))|(with_reducible refine z0 ?_)|((first|(with_reducible refine NV.eq (e2) ?_)|((with_reducible first|refine NV.quo ?s ?_|refine NV.i64 ?s ?_|refine NV.u64 ?s ?_);case s=>omega)|((with_reducible refine NIf.decY ?s ?_);case s=>omega)|((with_reducible refine NN.eq (n:=d+1) ?side ?_);case side=>omega)|(with_reducible refine NN.cast ?_)|((with_reducible refine NH.mk ?s ?_);case s=>(and_intros<;>first|omega|(simp only [List.length_append,List.length_cons,List.length_nil];omega)))|(with_reducible first|refine NS.eq (e) ?_|refine NS.keep ?_))<;>(conv=>whnf))|(with_reducible first|refine z3 ?_|refine z4 ?_|refine z5 ?_|refine z6 ?_)|((with_reducible refine z29 ?_);intro A B hA hB;(conv=>whnf))|(with_reducible first|refine z1 ?_|refine z2 ?_|refine z9 ?_)))
    all_goals refine st_round (i+1,q / 16,[y]++t) ⟨hlt,hq2,by dsimp only;rw [List.length_append,htl];show 1+i=_;omega,by dsimp only;rw [he,List.append_assoc]⟩ (by dsimp only;omega) ?_ (MemFits.eq rfl)
    all_goals dsimp only
    all_goals (try rw [← hd])
    all_goals repeat (first|exact FitsSl.nil|refine FitsSl.any ?_|refine FitsSl.cons (Fit1.int (by first | rfl | omega)) ?_|refine FitsSl.cons (Fit1.str rfl) ?_)
  · obtain rfl:i=16:=by omega
    rw [he]
    (repeat' (first|(with_reducible first|(refine hK _ _ ?_;clear hK K)|(refine hB ?_;clear hA hB A B)|(refine hK _ ?_;clear hK K))|((with_reducible refine z25 ?_);intro K hK;(conv=>whnf))|(with_reducible refine z0 ?_)|(((with_reducible refine NIf.decN ?s ?_);case s=>omega)<;>(conv=>whnf))|(with_reducible first|refine z3 ?_|refine z4 ?_|refine z7 ?_|refine z8 ?_)|((with_reducible refine z29 ?_);intro A B hA hB;(conv=>whnf))|(with_reducible first|refine z1 ?_|refine z2 ?_|refine z10 ?_|refine z11 ?_|refine z19 ?_)|((with_reducible refine gR ?_);(refine z31 rfl ?_;intro K hK;(conv=>whnf)))))
    all_goals rfl
theorem refline40_c (F:Heap) (w:List UInt8) (v:Value) (l:List Int) (hv:Su.Ints F v l) (hl:l.length≤1000000) (hw:∀ n∈l,Su.w64 n) (hwl:w.length≤100) :
    NCall Tryd.prog 28 [.str w,.hs v l.length] [hpB F] fun r m=>r = .str (Su.line w l)∧m=[hpB F]:=by
  refine NCall.fits (K:=fun r m=>r = .str (Su.line w l)∧MemFits m [hpB F]) ?_ fun r m' h=>⟨r,_,rfl,h.2,h.1,rfl⟩
  have hok:=hv.ok
  unfold Su.line
  refine ncall_of Tryd.func28 rfl (by decide) ?_
  (repeat' (first|(with_reducible first|(refine hK _ _ ?_;clear hK K)|(refine hK _ ?_;clear hK K))|((with_reducible refine z25 ?_);intro K hK;(conv=>whnf))|(with_reducible first|refine z0 ?_|refine z3 ?_|refine z4 ?_|refine z5 ?_|refine z1 ?_|refine z2 ?_)|((with_reducible refine gF ?_);(refine z33 rfl ?_;intro K hK;(conv=>whnf)))))
  refine st_auto (α:=Nat) (fun i=>i≤l.length) (fun i=>[.keep,.keep,.keep,.keep,.set (.str []),.set (.str (w++Su.nums (l.take i))),.set (.int .i64 i),.keep,.drop,.drop,.drop,.drop,.drop,.drop,.drop,.drop,.drop,.drop,.drop,.drop,.drop,.drop,.keep,.keep]) (fun _=>[]) (fun i=>l.length - i) 0 (Nat.zero_le _) ?_ ?_ ?_
  · show FitsSl _ _
    rw [List.take_zero,show Su.nums []=[] from rfl,List.append_nil]
    repeat (first|exact FitsSl.nil|refine FitsSl.any ?_|refine FitsSl.cons (Fit1.int (by first | rfl | omega)) ?_|refine FitsSl.cons (Fit1.str rfl) ?_|refine FitsSl.cons (Fit1.same (by intro h;cases h) (by with_reducible rfl)) ?_)
  · exact MemFits.eq rfl
  (intro i hi;intro K hK;(conv=>whnf);refine hK _ _ ?_;clear hK K)
  by_cases hlt:i<l.length
  · have e0:F.c ((addrOf v).add i) (.int .i64 l[i]):=RowF.get1 (f0:=fun x=>.int .i64 x) hv hlt
    have ci:=digits_c l[i] (hw _ (List.getElem_mem hlt))
    have hn:Su.nums (l.take (i+1))=Su.nums (l.take i)++(32::Lib.itoa l[i]):=Su.flat_next (fun n=>32::Lib.itoa n) l i hlt
    have hy:=Lib.itoa_length_le l[i] (hw _ (List.getElem_mem hlt)).1 (hw _ (List.getElem_mem hlt)).2
    have ht:=Su.nums_le (l.take i) fun n hn=>hw n (List.mem_of_mem_take hn)
    rw [List.length_take] at ht
    have hn2:w++Su.nums (l.take (i+1))=w++Su.nums (l.take i)++[32]++Lib.itoa l[i]:=by rw [hn];simp
    have hq:(w++Su.nums (l.take i)).length≤100+22000000:=by rw [List.length_append];omega
    clear hn ht
    generalize l[i]=y at *
    generalize Lib.itoa y=z at *
    generalize w++Su.nums (l.take i)=q at *
    (repeat' (first|(with_reducible first|(refine hK _ _ ?_;clear hK K)|(refine hA ?_;clear hA hB A B))|((with_reducible refine z25 ?_);intro K hK;(conv=>whnf))|(with_reducible refine z0 ?_)|((first|((with_reducible refine NV.i64 ?s ?_);case s=>omega)|((with_reducible refine NIf.decY ?s ?_);case s=>omega)|(with_reducible first|refine NN.cast ?_|refine NN.a2 ?_)|((with_reducible refine NH.mk ?s ?_);case s=>(and_intros<;>first|omega|(simp only [List.length_append,List.length_cons,List.length_nil];omega)))|((with_reducible refine NCall.isF 48 ?_);refine NCall.pureE (ci) ?_)|(with_reducible first|refine NS.keep ?_|refine NLd.of (by with_reducible assumption) ?_))<;>(conv=>whnf))|(with_reducible first|refine z3 ?_|refine z4 ?_|refine z5 ?_|refine z6 ?_)|((with_reducible refine z29 ?_);intro A B hA hB;(conv=>whnf))|(with_reducible first|refine z1 ?_|refine z2 ?_|refine z9 ?_)))
    all_goals refine st_round (i+1) hlt (by omega) ?_ (MemFits.eq rfl)
    all_goals rw [hn2]
    all_goals repeat (first|exact FitsSl.nil|refine FitsSl.any ?_|refine FitsSl.cons (Fit1.int (by first | rfl | omega)) ?_|refine FitsSl.cons (Fit1.str rfl) ?_|refine FitsSl.cons (Fit1.same (by intro h;cases h) (by with_reducible rfl)) ?_)
  · obtain rfl:i=l.length:=by omega
    rw [List.take_length]
    have ht:=Su.nums_le l hw
    have hq:(w++Su.nums l).length≤100+22000000:=by rw [List.length_append];omega
    generalize w++Su.nums l=q at *
    (repeat' (first|(with_reducible first|(refine hK _ _ ?_;clear hK K)|(refine hB ?_;clear hA hB A B)|(refine hK _ ?_;clear hK K))|((with_reducible refine z25 ?_);intro K hK;(conv=>whnf))|(with_reducible refine z0 ?_)|((first|((with_reducible refine NIf.decN ?s ?_);case s=>omega)|((with_reducible refine NH.mk ?s ?_);case s=>(and_intros<;>first|omega|(simp only [List.length_append,List.length_cons,List.length_nil];omega)))|(with_reducible refine NS.keep ?_))<;>(conv=>whnf))|(with_reducible first|refine z3 ?_|refine z4 ?_|refine z7 ?_|refine z8 ?_)|((with_reducible refine z29 ?_);intro A B hA hB;(conv=>whnf))|(with_reducible first|refine z1 ?_|refine z2 ?_|refine z10 ?_|refine z11 ?_|refine z19 ?_)|((with_reducible refine gR ?_);(refine z31 rfl ?_;intro K hK;(conv=>whnf)))))
    all_goals exact ⟨rfl,MemFits.pre 1 rfl⟩
theorem reflineO_c (F:Heap) (w:List UInt8) (v:Value) (l:List Int) (hl:l.length≤1000000) (hw:∀ n∈l,Su.w64 n) (hwl:w.length≤100) (t:TypeId) :
    NCall Tryd.prog 28 [.str w,.sl 1 v l.length] [hpB F,⟨addrOf v,Su.intAV l,.row v t 1 l.length⟩] fun r m=>r = .str (Su.line w l)∧m=[hpB F,⟨addrOf v,Su.intAV l,.row v t 1 l.length⟩] :=
  NCall.frozen (args':=[.str w,.hs v l.length]) Su.intV (refline40_c F w (.slice none 0 0) [] RowF.nil (by simp) (by simp) hwl) rfl (MemFits.eq rfl) rfl (Su.intAV_den l) (fun _ _=>rfl) fun G hG hr =>
    (refline40_c G w v l hr hl hw hwl).mono fun _ _ h=>⟨h.1,rfl⟩
theorem word40_c (i:Nat) (hi:i<6):NCall Tryd.prog 21 [.int .i64 i] [] fun r _=>r = .str (Su.wEnds.getD i []):=by
  refine ncall_of Tryd.func21 rfl (by decide) ?_
  have h6:i=0∨i=1∨i=2∨i=3∨i=4∨i=5:=by omega
  rcases h6 with rfl | rfl | rfl | rfl | rfl | rfl
  all_goals (repeat' (first|(with_reducible first|(refine hK _ _ ?_;clear hK K)|(refine hK _ ?_;clear hK K))|((with_reducible refine z25 ?_);intro K hK;(conv=>whnf))|(with_reducible refine z0 ?_)|((first|(with_reducible first|refine NN.cast ?_|refine NN.a2 ?_)|((with_reducible refine NH.mk ?s ?_);case s=>(and_intros<;>first|with_reducible rfl|((with_reducible refine gLen ?_);rfl)|omega)))<;>(conv=>whnf))|(with_reducible first|refine z3 ?_|refine z4 ?_|refine z8 ?_|refine z1 ?_|refine z2 ?_)|((with_reducible refine gR ?_);(refine z31 rfl ?_;intro K hK;(conv=>whnf)))|((with_reducible refine gF ?_);(refine z33 rfl ?_;intro K hK;(conv=>whnf)))|((intro _;skip)<;>(conv=>whnf))))
  all_goals rfl
end Go.Proofs.YtgphhbadnjfbjaaDoor
