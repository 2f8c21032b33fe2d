import Derived.Test.YtaojbkphcnailaaDoorJ6
import Derived.Test.YtaojbkphcnailaaDoorJ1
namespace Go.Proofs.YtaojbkphcnailaaDoor
open Go.Sx
set_option maxRecDepth 20000
set_option linter.unusedSimpArgs false
set_option linter.unusedVariables false
set_option maxHeartbeats 4000000
set_option linter.unusedVariables false
namespace Ps
def idx (ws:List (List UInt8)) (s:List UInt8):Int:=match ws.findIdx? (fun w=>decide (w=s)) with
  | none=>-1
  | some k=>k
theorem idx_some {ws:List (List UInt8)} {s:List UInt8} {i:Nat} (hx:ws[i]?=some s) (hno:∀ j,j<i→ws[j]?≠some s):idx ws s=i:=by
  obtain ⟨hi,hs⟩:=List.getElem?_eq_some_iff.1 hx
  have:ws.findIdx? (fun w=>decide (w=s))=some i:=List.findIdx?_eq_some_iff_getElem.2 ⟨hi,by simp [hs],fun j hj=>by
    have:=hno j hj
    rw [List.getElem?_eq_getElem (by omega)] at this
    simpa using this⟩
  unfold idx
  rw [this]
theorem idx_none {ws:List (List UInt8)} {s:List UInt8} (hno:∀ j,j<ws.length→ws[j]?≠some s):idx ws s = -1:=by
  have:ws.findIdx? (fun w=>decide (w=s))=none:=List.findIdx?_eq_none_iff.2 fun x hx=>by
    obtain ⟨j,hj⟩:=List.getElem?_of_mem hx
    have:=hno j (List.getElem?_eq_some_iff.1 hj).1
    rw [hj] at this
    simpa using this
  unfold idx
  rw [this]
abbrev SRow (F:Heap) (v:Value) (ws:List (List UInt8)):Prop:=RowF F 1 (fun w us=>us=[Value.string ⟨w.toArray⟩]) v ws
theorem SRow.get {F:Heap} {v:Value} {ws:List (List UInt8)} (h:SRow F v ws) {i:Nat} {w:List UInt8} (hx:ws[i]?=some w):F.c ((addrOf v).add i) (.string ⟨w.toArray⟩):=by
  obtain ⟨us,h1,_,h2⟩:=h.at_ i w hx
  subst h1
  simp only [CellsF,Nat.mul_one] at h2
  exact h2.1
end Ps
theorem index29_c (F:Heap) (v:Value) (ws:List (List UInt8)) (hv:Ps.SRow F v ws) (hn:ws.length≤1000) (s:List UInt8):NCall Tryd.prog 122 [.hs v ws.length,.str s] [hpB F] fun r m=>r = .int .i64 (Ps.idx ws s)∧m=[hpB F]:=by
  refine NCall.fits (K:=fun r m=>r = .int .i64 (Ps.idx ws s)∧MemFits m [hpB F]) ?_ fun r m' h=>⟨r,_,rfl,h.2,h.1,rfl⟩
  have hok:=hv.ok
  refine ncall_of Tryd.func122 rfl (by decide) ?_
  (repeat' (first|(with_reducible first|(refine hK _ _ ?_;clear hK K)|(refine hK _ ?_;clear hK K))|((with_reducible refine z25 ?_);intro K hK;(conv=>whnf))|(with_reducible refine z0 ?_)|(((with_reducible refine NH.mk ?s ?_);case s=>(and_intros<;>omega))<;>(conv=>whnf))|(with_reducible first|refine z3 ?_|refine z4 ?_|refine z5 ?_|refine z1 ?_|refine z2 ?_)|((with_reducible refine gF ?_);(refine z33 rfl ?_;intro K hK;(conv=>whnf)))))
  refine st_auto (α:=Nat) (fun i=>i≤ws.length∧∀ j,j<i→ws[j]?≠some s) (fun i=>[.keep,.keep,.keep,.keep,.set (.int .i64 0),.drop,.keep,.keep,.set (.int .i64 i),.drop,.drop,.drop,.drop,.drop,.drop,.drop,.drop,.drop,.drop]) (fun _=>[]) (fun i=>ws.length - i) 0 ⟨Nat.zero_le _,fun j h=>absurd h (Nat.not_lt_zero _)⟩ ?_ (MemFits.eq rfl) ?_
  · repeat (first|exact FitsSl.nil|refine FitsSl.any ?_|refine FitsSl.cons (Fit1.int (by first | rfl | omega)) ?_|refine FitsSl.cons (Fit1.str rfl) ?_|refine FitsSl.cons (Fit1.same (by intro h;cases h) (by with_reducible rfl)) ?_)
  (intro i ⟨hi,hno⟩;intro K hK;(conv=>whnf);refine hK _ _ ?_;clear hK K)
  by_cases hlt:i<ws.length
  · have hx:ws[i]?=some ws[i]:=List.getElem?_eq_getElem hlt
    have c0:=hv.get hx
    have hyes:ws[i]=s→Ps.idx ws s=i:=fun e=>Ps.idx_some (by rw [hx,e]) hno
    have hnx:ws[i]≠s→∀ j,j<i+1→ws[j]?≠some s:=fun e j hj=>by
      rcases Nat.lt_or_ge j i with h | h
      · exact hno j h
      · obtain rfl:j=i:=by omega
        rw [hx]
        simpa using e
    generalize ws[i]=w at *
    by_cases hw:w=s
    · subst hw
      (repeat' (first|(with_reducible first|(refine hK _ _ ?_;clear hK K)|(refine hA ?_;clear hA hB A B)|(refine hK _ ?_;clear hK K))|((with_reducible refine z25 ?_);intro K hK;(conv=>whnf))|(with_reducible refine z0 ?_)|((first|((with_reducible refine NIf.yes ?s ?_);case s=>(simp ;done))|((with_reducible refine NIf.decY ?s ?_);case s=>omega)|(with_reducible first|refine NN.cast ?_|refine NN.a2 ?_)|((with_reducible refine NH.mk ?s ?_);case s=>(and_intros<;>omega))|(with_reducible refine NLd.of (by with_reducible assumption) ?_))<;>(conv=>whnf))|(with_reducible first|refine z3 ?_|refine z4 ?_|refine z5 ?_|refine z6 ?_|refine z8 ?_)|((with_reducible refine z29 ?_);intro A B hA hB;(conv=>whnf))|(with_reducible first|refine z1 ?_|refine z2 ?_|refine z12 ?_|refine z13 ?_|refine z20 ?_)|((with_reducible refine gR ?_);(refine z31 rfl ?_;intro K hK;(conv=>whnf)))))
      all_goals exact ⟨by rw [hyes rfl],MemFits.pre 1 rfl⟩
    · have hw2:s≠w:=fun h=>hw h.symm
      (repeat' (first|(with_reducible first|(refine hK _ _ ?_;clear hK K)|(refine hA ?_;clear hA hB A B)|(refine hB ?_;clear hA hB A B))|((with_reducible refine z25 ?_);intro K hK;(conv=>whnf))|(with_reducible refine z0 ?_)|((first|((with_reducible refine NV.i64 ?s ?_);case s=>omega)|((with_reducible refine NIf.no ?s ?_);case s=>(simp [hw2];done))|((with_reducible refine NIf.decY ?s ?_);case s=>omega)|(with_reducible first|refine NN.cast ?_|refine NN.a2 ?_)|((with_reducible refine NH.mk ?s ?_);case s=>(and_intros<;>omega))|(with_reducible refine NLd.of (by with_reducible assumption) ?_))<;>(conv=>whnf))|(with_reducible first|refine z3 ?_|refine z4 ?_|refine z5 ?_|refine z6 ?_)|((with_reducible refine z29 ?_);intro A B hA hB;(conv=>whnf))|(with_reducible first|refine z1 ?_|refine z2 ?_|refine z9 ?_)))
      all_goals refine st_round (i+1) ⟨hlt,hnx hw⟩ (by omega) ?_ (MemFits.eq rfl)
      all_goals repeat (first|exact FitsSl.nil|refine FitsSl.any ?_|refine FitsSl.cons (Fit1.int (by first | rfl | omega)) ?_|refine FitsSl.cons (Fit1.str rfl) ?_|refine FitsSl.cons (Fit1.same (by intro h;cases h) (by with_reducible rfl)) ?_)
  · obtain rfl:i=ws.length:=by omega
    rw [Ps.idx_none hno]
    (repeat' (first|(with_reducible first|(refine hK _ _ ?_;clear hK K)|(refine hB ?_;clear hA hB A B)|(refine hK _ ?_;clear hK K))|((with_reducible refine z25 ?_);intro K hK;(conv=>whnf))|(with_reducible refine z0 ?_)|(((with_reducible refine NIf.decN ?s ?_);case s=>omega)<;>(conv=>whnf))|(with_reducible first|refine z3 ?_|refine z4 ?_|refine z7 ?_|refine z8 ?_)|((with_reducible refine z29 ?_);intro A B hA hB;(conv=>whnf))|(with_reducible first|refine z1 ?_|refine z2 ?_|refine z10 ?_|refine z11 ?_|refine z19 ?_)|((with_reducible refine gR ?_);(refine z31 rfl ?_;intro K hK;(conv=>whnf)))))
    all_goals exact ⟨rfl,MemFits.pre 1 rfl⟩
theorem indexW_c (F:Heap) (b j many:Nat) (hm:many≤6) (s:List UInt8):NCall Tryd.prog 122 [.view j (.slice (some ⟨b,0,none⟩) 6 6) 1 0 many,.str s] [hpB F,⟨⟨b,0,none⟩,[.str [115,114,99],.str [100,115,116],.str [107,105,110,100],.str [116,97,103],.str [112,111,114,116],.str [115,119,105,116,99,104]],.row (.slice (some ⟨b,0,none⟩) 6 6) 9 1 6⟩]
    fun r m=>r = .int .i64 (Ps.idx (Ps.words.take many) s)∧m=[hpB F,⟨⟨b,0,none⟩,[.str [115,114,99],.str [100,115,116],.str [107,105,110,100],.str [116,97,103],.str [112,111,114,116],.str [115,119,105,116,99,104]],.row (.slice (some ⟨b,0,none⟩) 6 6) 9 1 6⟩]:=by
  have hok:SlOk (.slice (some ⟨b,0,none⟩) 6 6) 6:=⟨_,_,rfl,Nat.le_refl _,fun h=>by cases h⟩
  have hcs:denL ([.str [115,114,99],.str [100,115,116],.str [107,105,110,100],.str [116,97,103],.str [112,111,114,116],.str [115,119,105,116,99,104]]:List AV)=Ps.words.flatMap fun w=>[Value.string ⟨w.toArray⟩]:=rfl
  have hrow:=rowF_new (F:=F) (sz:=1) (enc:=fun w:List UInt8=>[Value.string ⟨w.toArray⟩]) (l:=Ps.words) hok hcs (fun x _=>rfl)
  have hcut:=RowF.cut hrow (lo:=0) (hi:=many) (Nat.zero_le _) hm
  rw [List.drop_zero,Nat.sub_zero] at hcut
  have hl:(Ps.words.take many).length=many:=by rw [List.length_take];exact Nat.min_eq_left hm
  have cc:=index29_c _ _ (Ps.words.take many) hcut (by omega) s
  rw [hl] at cc
  refine NCall.keep cc (by have e:slOf (cutSl (.slice (some ⟨b,0,none⟩) 6 6) 1 0 many)=cutSl (.slice (some ⟨b,0,none⟩) 6 6) 1 0 many:=slOf_cutSl _ 1 0 many;simp [denL,AV.den];exact e) (MemFits.freeze (m:=[])) rfl fun u mL ⟨h1,h2⟩=>⟨u,rfl,h1,rfl⟩
theorem field29_c (F:Heap) (v:Value) (l:List Lx.T) (hv:Ps.Toks F v l) (hn:l.length≤1000) (b:Nat) {i many:Nat} (hm:many≤6) {x:Lx.T} (hx:l[i]?=some x):NCall Tryd.prog 107 [.ptr 1 ⟨b,0,none⟩ 0,.int .i64 many] [hpB F,Ps.pB b v l.length i] fun r m=>r = .int .i64 (if x.k=1 then Ps.idx (Ps.words.take many) x.s else -1)∧m=[hpB F,Ps.pB b v l.length (if 0≤(if x.k=1 then Ps.idx (Ps.words.take many) x.s else -1) then i+1 else i)]:=by
  have hi:=(List.getElem?_eq_some_iff.1 hx).1
  have cn:=now29_c F v l hv hn b hx
  have key:∀ q:Int, -1≤q→q≤6→q=(if x.k=1 then Ps.idx (Ps.words.take many) x.s else -1)→NCall Tryd.prog 107 [.ptr 1 ⟨b,0,none⟩ 0,.int .i64 many] [hpB F,Ps.pB b v l.length i] fun r m=>r = .int .i64 q∧MemFits m [hpB F,Ps.pB b v l.length (if 0≤q then i+1 else i)]:=fun q hq1 hq2 hq=>by
    have cx:=fun b' j=>indexW_c F b' j many hm x.s
    unfold Ps.pB at cn ⊢
    refine ncall_of Tryd.func107 rfl (by decide) ?_
    by_cases h1:x.k=1
    · rw [if_pos h1] at hq
      rw [← hq] at cx
      by_cases h0:0≤q
      · rw [if_pos h0]
        (repeat' (first|(with_reducible first|(refine hK _ _ ?_;clear hK K)|(refine hA ?_;clear hA hB A B)|(refine hK _ ?_;clear hK K))|((with_reducible refine z25 ?_);intro K hK;(conv=>whnf))|(with_reducible refine z0 ?_)|((first|((with_reducible refine NV.i64 ?s ?_);case s=>omega)|((with_reducible refine NIf.yes ?s ?_);case s=>(simp [h1];done))|((with_reducible refine NIf.decY ?s ?_);case s=>assumption)|(with_reducible first|refine NN.cast ?_|refine NN.a5 ?_)|((with_reducible refine NH.mk ?s ?_);case s=>(and_intros<;>first|with_reducible rfl|((with_reducible refine gOnes ?_);rfl)|((with_reducible refine gLen ?_);rfl)|((with_reducible refine gKept ?_);exact rfl)|omega))|((with_reducible refine NCall.isF 57 ?_);refine NCall.subE [0,1] (cn) rfl (by decide) rfl rfl ?_)|((with_reducible refine NCall.isF 122 ?_);refine NCall.subE [0,3] (cx _ _) rfl (by decide) rfl rfl ?_))<;>(conv=>whnf))|(with_reducible refine st_ordSout ?_)|((with_reducible refine gNOK ?_);(first|(refine st_ordK1 rfl (by kernel_rfl) rfl ?_;intro K hK;(conv=>whnf))|refine st_ordK0 rfl (by kernel_rfl) ?_|refine st_ordKA rfl rfl (by kernel_rfl) (by intro h;cases h) ?_))|((with_reducible refine gNEK ?_);(first|(refine st_eachK ?_ ?_;(intro K hK;(conv=>whnf)))|exact st_eachK0))|((with_reducible refine gX ?_);(first|refine st_orderS [2] rfl rfl (by kernel_rfl) _ rfl ?_|(with_reducible first|refine z3 ?_|refine z4 ?_|refine z8 ?_)|((with_reducible refine z29 ?_);intro A B hA hB;(conv=>whnf))))|(with_reducible first|refine z1 ?_|refine z2 ?_)|((with_reducible refine gR ?_);(refine z31 rfl ?_;intro K hK;(conv=>whnf)))|((with_reducible refine gF ?_);(refine z33 rfl ?_;intro K hK;(conv=>whnf)))|((intro _;skip)<;>(conv=>whnf))))
        all_goals first | (exfalso;omega) | exact ⟨rfl,MemFits.pre 2 rfl⟩
      · rw [if_neg h0]
        (repeat' (first|(with_reducible first|(refine hK _ _ ?_;clear hK K)|(refine hA ?_;clear hA hB A B)|(refine hB ?_;clear hA hB A B)|(refine hK _ ?_;clear hK K))|((with_reducible refine z25 ?_);intro K hK;(conv=>whnf))|(with_reducible refine z0 ?_)|((first|((with_reducible refine NIf.yes ?s ?_);case s=>(simp [h1];done))|((with_reducible refine NIf.decN ?s ?_);case s=>assumption)|(with_reducible first|refine NN.cast ?_|refine NN.a5 ?_)|((with_reducible refine NH.mk ?s ?_);case s=>(and_intros<;>first|with_reducible rfl|((with_reducible refine gOnes ?_);rfl)|((with_reducible refine gLen ?_);rfl)|((with_reducible refine gKept ?_);exact rfl)|omega))|((with_reducible refine NCall.isF 57 ?_);refine NCall.subE [0,1] (cn) rfl (by decide) rfl rfl ?_)|((with_reducible refine NCall.isF 122 ?_);refine NCall.subE [0,3] (cx _ _) rfl (by decide) rfl rfl ?_))<;>(conv=>whnf))|(with_reducible refine st_ordSout ?_)|((with_reducible refine gNOK ?_);(first|(refine st_ordK1 rfl (by kernel_rfl) rfl ?_;intro K hK;(conv=>whnf))|refine st_ordK0 rfl (by kernel_rfl) ?_|refine st_ordKA rfl rfl (by kernel_rfl) (by intro h;cases h) ?_))|((with_reducible refine gNEK ?_);(first|(refine st_eachK ?_ ?_;(intro K hK;(conv=>whnf)))|exact st_eachK0))|((with_reducible refine gX ?_);(first|refine st_orderS [2] rfl rfl (by kernel_rfl) _ rfl ?_|(with_reducible first|refine z3 ?_|refine z4 ?_|refine z6 ?_|refine z8 ?_)|((with_reducible refine z29 ?_);intro A B hA hB;(conv=>whnf))))|(with_reducible first|refine z1 ?_|refine z2 ?_)|((with_reducible refine gR ?_);(refine z31 rfl ?_;intro K hK;(conv=>whnf)))|((with_reducible refine gF ?_);(refine z33 rfl ?_;intro K hK;(conv=>whnf)))|((intro _;skip)<;>(conv=>whnf))))
        all_goals first | (exfalso;omega) | exact ⟨rfl,MemFits.pre 2 rfl⟩
    · rw [if_neg h1] at hq
      subst hq
      rw [if_neg (by decide)]
      (repeat' (first|(with_reducible first|(refine hK _ _ ?_;clear hK K)|(refine hB ?_;clear hA hB A B)|(refine hK _ ?_;clear hK K))|((with_reducible refine z25 ?_);intro K hK;(conv=>whnf))|(with_reducible refine z0 ?_)|((first|((with_reducible refine NIf.no ?s ?_);case s=>(simp [h1];done))|(with_reducible refine NN.a5 ?_)|((with_reducible refine NH.mk ?s ?_);case s=>(and_intros<;>first|with_reducible rfl|((with_reducible refine gOnes ?_);rfl)|((with_reducible refine gLen ?_);rfl)))|((with_reducible refine NCall.isF 57 ?_);refine NCall.subE [0,1] (cn) rfl (by decide) rfl rfl ?_))<;>(conv=>whnf))|(with_reducible first|refine z3 ?_|refine z4 ?_|refine z6 ?_|refine z8 ?_)|((with_reducible refine z29 ?_);intro A B hA hB;(conv=>whnf))|(with_reducible first|refine z1 ?_|refine z2 ?_)|((with_reducible refine gR ?_);(refine z31 rfl ?_;intro K hK;(conv=>whnf)))|((with_reducible refine gF ?_);(refine z33 rfl ?_;intro K hK;(conv=>whnf)))|((intro _;skip)<;>(conv=>whnf))))
      all_goals exact ⟨rfl,MemFits.pre 2 rfl⟩
  have hb : -1≤(if x.k=1 then Ps.idx (Ps.words.take many) x.s else -1)∧(if x.k=1 then Ps.idx (Ps.words.take many) x.s else -1)≤6:=by
    split
    · unfold Ps.idx
      split
      · omega
      · rename_i k hk
        have:=(List.findIdx?_eq_some_iff_getElem.1 hk).1
        rw [List.length_take] at this
        omega
    · omega
  exact NCall.fits (key _ hb.1 hb.2 rfl) fun r m' h=>⟨r,_,rfl,h.2,h.1,rfl⟩
end Go.Proofs.YtaojbkphcnailaaDoor
namespace Go.Proofs.YtaojbkphcnailaaDoor
open Go.Sx
set_option maxRecDepth 20000
set_option linter.unusedVariables false
namespace Pd
end Pd
end Go.Proofs.YtaojbkphcnailaaDoor
