import Derived.Test.YtijkmhmgigaieaaAu12b
import Derived.Test.YtijkmhmgigaieaaAu13p
import Derived.Test.YtijkmhmgigaieaaAu6
import Derived.Test.YtijkmhmgigaieaaAu8
namespace Go.Proofs.Ytijkmhmgigaieaa
open Go.Sx
set_option maxRecDepth 20000
set_option linter.unusedSimpArgs false
set_option linter.unusedVariables false
set_option maxHeartbeats 4000000
set_option linter.unusedVariables false
set_option linter.unnecessarySimpa false
namespace Au
theorem frow_mono {F G:Heap} (h:F.le G) {v:Value} {l:List Fd} (hv:FRow F v l):FRow G v l:=RowF.mono h (fun _ _ h=>h) hv
theorem FRow.get {F:Heap} {v:Value} {l:List Fd} (h:FRow F v l) {i:Nat} {x:Fd} (hx:l[i]?=some x):F.c ((addrOf v).add (i*2)) (.int .i64 x.1)∧F.c ((addrOf v).add (i*2+1)) (.int .i64 x.2):=by
  obtain ⟨us,e1,_,h2⟩:=h.at_ i x hx
  subst e1
  exact ⟨h2.1,h2.2.1⟩
theorem crash_next {l:List Tc.E} {i:Nat} {x:Tc.E} (hx:l[i]?=some x):(l.take (i+1)).any crash=((l.take i).any crash||(decide (x.kind=12)&&decide (x.sw≥0))):=by
  rw [List.take_add_one,hx,Option.toList_some,List.any_append]
  simp [crash]
end Au
theorem ptells42_c (F:Heap) (t:Tp.T) (lv hv v ev:Value) (rs:List (List (List Int))) (l:List Tc.E) (at_:Int) (ht:Tp.At F t lv hv) (hr:Au.RRow F v rs) (hs:Au.short rs) (he:Tc.ERow F ev l) (hel:l.length≤9223372036854775807) :
    NCall Try.prog 6 [.agg (Tp.cs t lv hv),.hs v rs.length,.hs ev l.length,.int .i64 at_] [hpB F] fun r _=>r = .bool true:=by
  have hlo:=ht.l.ok
  have hho:=ht.h.ok
  have hok:=hr.ok
  have hek:=he.ok
  have ca:=fun G=>awake42_c G
  have cs:=small42_c F t lv hv v ev rs l ht hr hs he hel
  cases hsm:Au.small t rs l with
  | false =>
    rw [hsm] at cs
    unfold Tp.cs at cs ⊢
    refine ncall_of Try.func6 rfl (by decide) ?_
    (repeat' (first|(with_reducible first|(refine hK _ _ ?_;clear hK K)|(refine hA ?_;clear hA hB A B)|(refine hK _ ?_;clear hK K))|((with_reducible refine z25 ?_);intro K hK;(conv=>whnf))|(with_reducible refine z0 ?_)|((first|((with_reducible refine NIf.yes ?s ?_);case s=>(simp ;done))|((with_reducible refine NH.mk ?s ?_);case s=>(and_intros<;>with_reducible rfl))|((with_reducible refine NCall.isF 15 ?_);refine NCall.subE [0] (cs) rfl (by decide) rfl rfl ?_)|((with_reducible refine NCall.isF 9 ?_);refine NCall.subE [0] (ca F) rfl (by decide) rfl rfl ?_))<;>(conv=>whnf))|(with_reducible first|refine z3 ?_|refine z4 ?_|refine z8 ?_)|((with_reducible refine z29 ?_);intro A B hA hB;(conv=>whnf))|(with_reducible first|refine z1 ?_|refine z2 ?_|refine z12 ?_)|((with_reducible refine gR ?_);(refine z31 rfl ?_;intro K hK;(conv=>whnf)))|((with_reducible refine gF ?_);(refine z33 rfl ?_;intro K hK;(conv=>whnf)))|((intro _;skip)<;>(conv=>whnf))))
    all_goals rfl
  | true =>
    obtain ⟨hl100,hl,hh,hf⟩:=Au.small_of hsm
    rw [hsm] at cs
    have cC:=fun G (h:F.le G)=>check42_c G t lv hv v ev rs l (ht.mono h) (by omega) (by omega) (Au.RRow.mono h hr) hf (Tc.erow_mono h he) (by omega)
    have cR:=fun G (h:F.le G)=>refcheck42_c G t lv hv v ev rs l (ht.mono h) (by omega) (by omega) (Au.RRow.mono h hr) hf (Tc.erow_mono h he) (by omega)
    have cg:=fun G (h:F.le G)=>guards42_c G ev l (Tc.erow_mono h he) (by omega)
    have cg2:=fun G (h:F.le G)=>refguards42_c G ev l (Tc.erow_mono h he) (by omega)
    have cd:=fun G (h:F.le G)=>guarded42_c G ev l (Tc.erow_mono h he) (by omega) at_
    have cd2:=fun G (h:F.le G)=>refguarded42_c G ev l (Tc.erow_mono h he) (by omega) at_
    have ci:=fun G (h:F.le G)=>inforce42_c G ev l (Tc.erow_mono h he) (by omega) at_
    have ci2:=fun G (h:F.le G)=>refinforce42_c G ev l (Tc.erow_mono h he) (by omega) at_
    have cc:=fun G (h:F.le G)=>crashes42_c G ev l (Tc.erow_mono h he) (by omega)
    have cn:=name42_c at_
    have cw:=word42_c at_
    have hgl:=Au.gTo_len l l.length
    have hg0:(Au.guards l).length≤1000:=by unfold Au.guards;omega
    have hcl:(Au.check t rs l).length≤1000:=by
      have h5:=Au.flat_len (Au.finds_len t rs l) (Tc.tr l)
      have h6:=(Tc.tr_short l).1
      unfold Au.check
      omega
    generalize Au.guards l=gs at *
    generalize Au.guarded l at_=gd at *
    generalize Au.inForce l at_=fo at *
    generalize Au.word at_=wd at *
    generalize Au.check t rs l=fs at *
    unfold Tp.cs at cs cC cR ⊢
    refine ncall_of Try.func6 rfl (by decide) ?_
    (repeat' (first|(with_reducible first|(refine hK _ _ ?_;clear hK K)|(refine hB ?_;clear hA hB A B)|(refine hK _ ?_;clear hK K))|((with_reducible refine z25 ?_);intro K hK;(conv=>whnf))|(with_reducible refine z0 ?_)|((first|((with_reducible refine NIf.no ?s ?_);case s=>(simp ;done))|((with_reducible refine NH.mk ?s ?_);case s=>(and_intros<;>with_reducible rfl))|((with_reducible refine NCall.isF 15 ?_);refine NCall.subE [0] (cs) rfl (by decide) rfl rfl ?_)|((with_reducible refine NCall.isF 12 ?_);refine NCall.subw [0] _ _ (cg F F.le_refl) rfl (by decide) rfl ?_;rintro _ _ ⟨G1,g1,hle1,hg1,rfl,rfl⟩;refine ⟨Nat.le_of_ble_eq_true rfl,_,rfl,?_⟩)|((with_reducible refine NCall.isF 16 ?_);refine NCall.subw [0] _ _ (cg2 G1 hle1) rfl (by decide) rfl ?_;rintro _ _ ⟨G2,g2,hle2,hg2,rfl,rfl⟩;refine ⟨Nat.le_of_ble_eq_true rfl,_,rfl,?_⟩))<;>(conv=>whnf))|(with_reducible first|refine z3 ?_|refine z4 ?_|refine z6 ?_)|((with_reducible refine z29 ?_);intro A B hA hB;(conv=>whnf))|(with_reducible first|refine z1 ?_|refine z2 ?_)|((with_reducible refine gF ?_);(refine z33 rfl ?_;intro K hK;(conv=>whnf)))|((intro _;skip)<;>(conv=>whnf))))
    have hF2:=hle1.trans hle2
    have hg1':=Au.grow_mono hle2 hg1
    have hk1:=hg1'.ok
    have hk2:=hg2.ok
    (repeat' (first|(with_reducible first|(refine hK _ _ ?_;clear hK K)|(refine hB ?_;clear hA hB A B))|((with_reducible first|refine z25 ?_|refine z26 ?_);intro K hK;(conv=>whnf))|(with_reducible refine z0 ?_)|((first|((with_reducible refine NIf.no ?s ?_);case s=>(simp ;done))|((with_reducible refine NH.mk ?s ?_);case s=>(and_intros<;>omega))|((with_reducible refine NCall.isF 13 ?_);refine NCall.subE [0] (cd G2 hF2) rfl (by decide) rfl rfl ?_)|((with_reducible refine NCall.isF 17 ?_);refine NCall.subE [0] (cd2 G2 hF2) rfl (by decide) rfl rfl ?_)|((with_reducible refine NCall.isF 14 ?_);refine NCall.subE [0] (ci G2 hF2) rfl (by decide) rfl rfl ?_)|((with_reducible refine NCall.isF 18 ?_);refine NCall.subE [0] (ci2 G2 hF2) rfl (by decide) rfl rfl ?_)|((with_reducible refine NCall.isF 19 ?_);refine NCall.subE [] (cn) rfl (by decide) rfl rfl ?_)|((with_reducible refine NCall.isF 20 ?_);refine NCall.subE [] (cw) rfl (by decide) rfl rfl ?_))<;>(conv=>whnf))|(with_reducible first|refine z3 ?_|refine z4 ?_|refine z5 ?_|refine z6 ?_)|((with_reducible refine z29 ?_);intro A B hA hB;(conv=>whnf))|(with_reducible first|refine z1 ?_|refine z2 ?_)))
    all_goals try (exfalso;omega)
    refine st_auto (α:=Nat) (fun i=>i≤gs.length) (fun i=>[.keep,.keep,.keep,.keep,.keep,.keep,.keep,.keep,.set (.bool false),.keep,.keep,.set (.int .i64 i),.keep,.keep,.keep,.keep,.keep,.keep,.keep,.keep,.keep,.keep,.keep,.keep,.keep,.keep,.keep,.keep,.keep,.keep,.keep,.keep,.keep,.keep,.keep,.keep,.keep,.keep,.keep,.keep,.keep,.keep,.keep,.keep,.keep,.keep,.keep,.keep,.keep,.keep,.keep,.keep,.keep,.keep,.keep,.keep,.keep,.drop,.drop,.drop,.drop,.drop,.drop,.drop,.drop,.drop,.drop,.drop,.drop,.drop,.drop,.drop,.drop,.drop,.drop,.drop,.drop,.drop,.drop,.drop,.drop,.drop,.drop,.drop,.drop,.drop,.drop,.drop,.drop,.drop,.drop,.drop,.drop,.drop,.drop,.drop,.drop,.drop,.drop,.drop,.keep,.keep,.keep,.keep,.keep,.keep,.keep,.keep,.keep,.keep,.keep,.keep,.keep,.keep,.keep,.keep,.keep,.keep,.keep,.keep,.keep,.keep,.keep,.keep,.keep,.keep,.keep,.keep,.keep,.keep,.keep,.keep,.keep,.keep,.keep,.keep,.keep,.keep,.keep,.keep,.keep,.keep,.keep,.keep,.keep,.keep,.keep,.keep,.keep,.keep,.keep,.keep,.keep,.keep,.keep,.keep,.keep,.keep,.keep,.keep,.keep,.keep,.keep,.keep,.keep,.keep,.keep,.keep,.keep,.keep,.keep,.keep,.keep]) (fun _=>[.keep,.keep]) (fun i=>gs.length - i) 0 (Nat.zero_le _) ?_ (MemFits.eq rfl) ?_
    · repeat (first|exact FitsSl.nil|refine FitsSl.any ?_|refine FitsSl.cons (Fit1.int (by first | rfl | omega)) ?_|refine FitsSl.cons (Fit1.bool rfl) ?_|refine FitsSl.cons (Fit1.str rfl) ?_|refine FitsSl.cons (Fit1.same (by intro h;cases h) (by with_reducible rfl)) ?_)
    (intro i hi;intro K hK;(conv=>whnf);refine hK _ _ ?_;clear hK K)
    by_cases hlt:i<gs.length
    · have hx:gs[i]?=some gs[i]:=List.getElem?_eq_getElem hlt
      obtain ⟨c0,c1,c2⟩:=hg1'.get hx
      obtain ⟨d0,d1,d2⟩:=hg2.get hx
      generalize gs[i]=x at *
      (repeat' (first|(with_reducible first|(refine hK _ _ ?_;clear hK K)|(refine hA ?_;clear hA hB A B)|(refine hB ?_;clear hA hB A B)|(refine hK _ ?_;clear hK K))|((with_reducible refine z25 ?_);intro K hK;(conv=>whnf))|(with_reducible refine z0 ?_)|((first|((with_reducible refine NV.i64 ?s ?_);case s=>omega)|((with_reducible refine NIf.no ?s ?_);case s=>(simp ;done))|((with_reducible refine NIf.decY ?s ?_);case s=>omega)|(with_reducible first|refine NN.cast ?_|refine NN.a6 ?_|refine NN.keep ?_)|((with_reducible refine NH.mk ?s ?_);case s=>(and_intros<;>omega))|(with_reducible refine NLd.of (by with_reducible assumption) ?_))<;>(conv=>whnf))|(with_reducible refine st_ordSout ?_)|((with_reducible refine gNOK ?_);(first|(refine st_ordK1 rfl (by kernel_rfl) rfl ?_;intro K hK;(conv=>whnf))|(refine st_ordK1g rfl (by kernel_rfl) rfl ?_;intro K hK;(conv=>whnf))|refine st_ordK0 rfl (by kernel_rfl) ?_))|((with_reducible refine gX ?_);(first|refine st_orderS [] rfl rfl (by kernel_rfl) _ rfl ?_|(with_reducible first|refine z3 ?_|refine z4 ?_|refine z5 ?_|refine z6 ?_)|((with_reducible refine z29 ?_);intro A B hA hB;(conv=>whnf))))|(with_reducible first|refine z1 ?_|refine z2 ?_|refine z9 ?_)))
      all_goals refine st_round (i+1) hlt (by omega) ?_ (MemFits.eq rfl)
      all_goals repeat (first|exact FitsSl.nil|refine FitsSl.any ?_|refine FitsSl.cons (Fit1.int (by first | rfl | omega)) ?_|refine FitsSl.cons (Fit1.bool rfl) ?_|refine FitsSl.cons (Fit1.str rfl) ?_|refine FitsSl.cons (Fit1.same (by intro h;cases h) (by with_reducible rfl)) ?_)
    · have hii:i=gs.length:=by omega
      (repeat' (first|(with_reducible first|(refine hK _ _ ?_;clear hK K)|(refine hB ?_;clear hA hB A B))|((with_reducible refine z25 ?_);intro K hK;(conv=>whnf))|(with_reducible refine z0 ?_)|((first|((with_reducible refine NIf.decN ?s ?_);case s=>omega)|((with_reducible refine NH.mk ?s ?_);case s=>(and_intros<;>omega)))<;>(conv=>whnf))|(with_reducible first|refine z3 ?_|refine z4 ?_|refine z7 ?_)|((with_reducible refine z29 ?_);intro A B hA hB;(conv=>whnf))|(with_reducible first|refine z1 ?_|refine z2 ?_|refine z10 ?_|refine z11 ?_|refine z19 ?_)))
      rename_i b1
      refine st_drawCut (α:=Heap × Value × Value) (fun y=>F.le y.1∧Au.FRow y.1 y.2.1 fs∧Au.FRow y.1 y.2.2 fs) (fun y=>((List.replicate 173 .keep).set 12 (.set (.hs y.2.1 fs.length))).set 13 (.set (.hs y.2.2 fs.length))) (fun y=>[.set (hpB y.1)]) ?_ ?_
      · refine st_drawFits (m':=[hpB G2,_,hpB G2]) (FitsSl.refl _) ((MemFits.dup G2.le_refl _).trans (MemFits.pick [0,2,1] (by decide) rfl)) ?_
        (repeat' (first|(with_reducible first|(refine hK _ _ ?_;clear hK K)|(refine hK _ ?_;clear hK K))|((first|((with_reducible refine NH.mk ?s ?_);case s=>(and_intros<;>first|((with_reducible refine gKept ?_);exact rfl)|rfl))|((with_reducible refine NCall.isF 11 ?_);refine NCall.subw [2] _ _ (cC _ (by first | exact hF2 | exact hF2.trans (by assumption))) rfl (by decide) rfl ?_;rintro _ _ ⟨G3,f1,hle3,hf1,rfl,rfl⟩;refine ⟨Nat.le_of_ble_eq_true rfl,_,rfl,?_⟩)|((with_reducible refine NCall.isF 21 ?_);refine NCall.subw [2] _ _ (cR _ (by first | exact hF2 | exact hF2.trans (by assumption))) rfl (by decide) rfl ?_;rintro _ _ ⟨G4,f2,hle4,hf2,rfl,rfl⟩;refine ⟨Nat.le_of_ble_eq_true rfl,_,rfl,?_⟩))<;>(conv=>whnf))|(with_reducible refine st_ordSout ?_)|((with_reducible refine gNOK ?_);(first|(refine st_ordK1 rfl (by kernel_rfl) rfl ?_;intro K hK;(conv=>whnf))|refine st_ordK0 rfl (by kernel_rfl) ?_|refine st_ordKA rfl rfl (by kernel_rfl) (by intro h;cases h) ?_))|((with_reducible refine gNEK ?_);(first|(refine st_eachK ?_ ?_;(intro K hK;(conv=>whnf)))|exact st_eachK0))|((with_reducible refine gX ?_);refine st_orderS [2] rfl rfl (by kernel_rfl) _ rfl ?_)|(with_reducible refine z1 ?_)))
        all_goals first
          | refine cut_done (G4,f1,f2) ⟨hF2.trans (hle3.trans hle4),Au.frow_mono hle4 hf1,hf2⟩ ?_ (MemFits.pick [2,1] (by decide) rfl)
          | refine cut_done (G3,f1,f2) ⟨hF2.trans (hle4.trans hle3),hf1,Au.frow_mono hle3 hf2⟩ ?_ (MemFits.pick [2,1] (by decide) rfl)
        all_goals repeat (first|exact FitsSl.nil|refine FitsSl.any ?_|refine FitsSl.cons (Fit1.int (by first | rfl | omega)) ?_|refine FitsSl.cons (Fit1.bool rfl) ?_|refine FitsSl.cons (Fit1.str rfl) ?_|refine FitsSl.cons (Fit1.same (by intro h;cases h) (by with_reducible rfl)) ?_)
      (intro ⟨G,f1,f2⟩ ⟨hle,hf1,hf2⟩;intro K hK;(conv=>whnf);refine hK _ _ ?_;clear hK K)
      dsimp only at hle hf1 hf2 ⊢
      have hm1:=hf1.ok
      have hm2:=hf2.ok
      (repeat' (first|(with_reducible first|(refine hK _ _ ?_;clear hK K)|(refine hB ?_;clear hA hB A B))|((with_reducible refine z25 ?_);intro K hK;(conv=>whnf))|(with_reducible refine z0 ?_)|((first|with_reducible refine NIf.not_ ?_|((with_reducible refine NIf.decY ?s ?_);case s=>with_reducible rfl)|((with_reducible refine NH.mk ?s ?_);case s=>(and_intros<;>omega)))<;>(conv=>whnf))|(with_reducible first|refine z3 ?_|refine z4 ?_|refine z5 ?_|refine z6 ?_)|((with_reducible refine z29 ?_);intro A B hA hB;(conv=>whnf))|(with_reducible first|refine z1 ?_|refine z2 ?_)))
      all_goals try (exfalso;omega)
      refine st_auto (α:=Nat) (fun i=>i≤fs.length) (fun i=>[.keep,.keep,.keep,.keep,.keep,.keep,.keep,.keep,.set (.bool false),.keep,.keep,.keep,.keep,.keep,.set (.int .i64 i),.keep,.keep,.keep,.keep,.keep,.keep,.keep,.keep,.keep,.keep,.keep,.keep,.keep,.keep,.keep,.keep,.keep,.keep,.keep,.keep,.keep,.keep,.keep,.keep,.keep,.keep,.keep,.keep,.keep,.keep,.keep,.keep,.keep,.keep,.keep,.keep,.keep,.keep,.keep,.keep,.keep,.keep,.keep,.keep,.keep,.keep,.keep,.keep,.keep,.keep,.keep,.keep,.keep,.keep,.keep,.keep,.keep,.keep,.keep,.keep,.keep,.keep,.keep,.keep,.keep,.keep,.keep,.keep,.keep,.keep,.keep,.keep,.keep,.keep,.keep,.keep,.keep,.keep,.keep,.keep,.keep,.keep,.keep,.keep,.keep,.keep,.keep,.keep,.keep,.keep,.keep,.keep,.keep,.keep,.keep,.keep,.keep,.keep,.drop,.drop,.drop,.drop,.drop,.drop,.drop,.drop,.drop,.drop,.drop,.drop,.drop,.drop,.drop,.drop,.drop,.drop,.drop,.drop,.drop,.drop,.drop,.drop,.drop,.drop,.drop,.drop,.drop,.drop,.keep,.keep,.keep,.keep,.keep,.keep,.keep,.keep,.keep,.keep,.keep,.keep,.keep,.keep,.keep,.keep,.keep,.keep,.keep,.keep,.keep,.keep,.keep,.keep,.keep,.keep,.keep,.keep,.keep,.keep]) (fun _=>[.keep,.keep]) (fun i=>fs.length - i) 0 (Nat.zero_le _) ?_ (MemFits.eq rfl) ?_
      · repeat (first|exact FitsSl.nil|refine FitsSl.any ?_|refine FitsSl.cons (Fit1.int (by first | rfl | omega)) ?_|refine FitsSl.cons (Fit1.bool rfl) ?_|refine FitsSl.cons (Fit1.str rfl) ?_|refine FitsSl.cons (Fit1.same (by intro h;cases h) (by with_reducible rfl)) ?_)
      (intro j hj;intro K hK;(conv=>whnf);refine hK _ _ ?_;clear hK K)
      by_cases hjl:j<fs.length
      · have hx:fs[j]?=some fs[j]:=List.getElem?_eq_getElem hjl
        obtain ⟨c0,c1⟩:=hf1.get hx
        obtain ⟨d0,d1⟩:=hf2.get hx
        generalize fs[j]=x at *
        (repeat' (first|(with_reducible first|(refine hK _ _ ?_;clear hK K)|(refine hA ?_;clear hA hB A B)|(refine hB ?_;clear hA hB A B)|(refine hK _ ?_;clear hK K))|((with_reducible refine z25 ?_);intro K hK;(conv=>whnf))|(with_reducible refine z0 ?_)|((first|((with_reducible refine NV.i64 ?s ?_);case s=>omega)|((with_reducible refine NIf.no ?s ?_);case s=>(simp ;done))|((with_reducible refine NIf.decY ?s ?_);case s=>omega)|(with_reducible first|refine NN.cast ?_|refine NN.a6 ?_|refine NN.keep ?_)|((with_reducible refine NH.mk ?s ?_);case s=>(and_intros<;>omega))|(with_reducible refine NLd.of (by with_reducible assumption) ?_))<;>(conv=>whnf))|(with_reducible refine st_ordSout ?_)|((with_reducible refine gNOK ?_);(first|(refine st_ordK1 rfl (by kernel_rfl) rfl ?_;intro K hK;(conv=>whnf))|(refine st_ordK1g rfl (by kernel_rfl) rfl ?_;intro K hK;(conv=>whnf))|refine st_ordK0 rfl (by kernel_rfl) ?_))|((with_reducible refine gX ?_);(first|refine st_orderS [] rfl rfl (by kernel_rfl) _ rfl ?_|(with_reducible first|refine z3 ?_|refine z4 ?_|refine z5 ?_|refine z6 ?_)|((with_reducible refine z29 ?_);intro A B hA hB;(conv=>whnf))))|(with_reducible first|refine z1 ?_|refine z2 ?_|refine z9 ?_)))
        all_goals refine st_round (j+1) hjl (by omega) ?_ (MemFits.eq rfl)
        all_goals repeat (first|exact FitsSl.nil|refine FitsSl.any ?_|refine FitsSl.cons (Fit1.int (by first | rfl | omega)) ?_|refine FitsSl.cons (Fit1.bool rfl) ?_|refine FitsSl.cons (Fit1.str rfl) ?_|refine FitsSl.cons (Fit1.same (by intro h;cases h) (by with_reducible rfl)) ?_)
      · have hjj:j=fs.length:=by omega
        have he2:=Tc.erow_mono hle he
        (repeat' (first|(with_reducible first|(refine hK _ _ ?_;clear hK K)|(refine hB ?_;clear hA hB A B))|((with_reducible refine z25 ?_);intro K hK;(conv=>whnf))|(with_reducible refine z0 ?_)|((first|((with_reducible refine NIf.decN ?s ?_);case s=>omega)|((with_reducible refine NH.mk ?s ?_);case s=>(and_intros<;>omega)))<;>(conv=>whnf))|(with_reducible first|refine z3 ?_|refine z4 ?_|refine z5 ?_|refine z7 ?_)|((with_reducible refine z29 ?_);intro A B hA hB;(conv=>whnf))|(with_reducible first|refine z1 ?_|refine z2 ?_|refine z10 ?_|refine z11 ?_|refine z19 ?_)))
        refine st_auto (α:=Nat) (fun i=>i≤l.length) (fun i=>[.keep,.keep,.keep,.keep,.keep,.keep,.keep,.keep,.keep,.keep,.keep,.keep,.keep,.keep,.keep,.set (.bool ((l.take i).any Au.crash)),.set (.int .i64 i),.keep,.keep,.keep,.keep,.keep,.keep,.keep,.keep,.keep,.keep,.keep,.keep,.keep,.keep,.keep,.keep,.keep,.keep,.keep,.keep,.keep,.keep,.keep,.keep,.keep,.keep,.keep,.keep,.keep,.keep,.keep,.keep,.keep,.keep,.keep,.keep,.keep,.keep,.keep,.keep,.keep,.keep,.keep,.keep,.keep,.keep,.keep,.keep,.keep,.keep,.keep,.keep,.keep,.keep,.keep,.keep,.keep,.keep,.keep,.keep,.keep,.keep,.keep,.keep,.keep,.keep,.keep,.keep,.keep,.keep,.keep,.keep,.keep,.keep,.keep,.keep,.keep,.keep,.keep,.keep,.keep,.keep,.keep,.keep,.keep,.keep,.keep,.keep,.keep,.keep,.keep,.keep,.keep,.keep,.keep,.keep,.keep,.keep,.keep,.keep,.keep,.keep,.keep,.keep,.keep,.keep,.keep,.keep,.keep,.keep,.keep,.keep,.keep,.keep,.keep,.keep,.keep,.keep,.keep,.keep,.keep,.keep,.keep,.keep,.keep,.keep,.drop,.drop,.drop,.drop,.drop,.drop,.drop,.drop,.drop,.drop,.drop,.drop,.drop,.drop,.drop,.drop,.drop,.drop,.drop,.drop,.drop,.drop,.drop,.keep,.keep,.keep,.keep,.keep,.keep,.keep]) (fun _=>[.keep,.keep]) (fun i=>l.length - i) 0 (Nat.zero_le _) ?_ (MemFits.eq rfl) ?_
        · repeat (first|exact FitsSl.nil|refine FitsSl.any ?_|refine FitsSl.cons (Fit1.int (by first | rfl | omega)) ?_|refine FitsSl.cons (Fit1.bool rfl) ?_|refine FitsSl.cons (Fit1.str rfl) ?_|refine FitsSl.cons (Fit1.same (by intro h;cases h) (by with_reducible rfl)) ?_)
        (intro n hn;intro K hK;(conv=>whnf);refine hK _ _ ?_;clear hK K)
        by_cases hnl:n<l.length
        · have hx:l[n]?=some l[n]:=List.getElem?_eq_getElem hnl
          obtain ⟨e0,e1,e2,e3,e4,e5⟩:=he2.get hx
          have hcn:=Au.crash_next hx
          generalize l[n]=x at *
          generalize (l.take n).any Au.crash=q at *
          cases q with
          | true =>
            rw [Bool.true_or] at hcn
            (repeat' (first|(with_reducible first|(refine hK _ _ ?_;clear hK K)|(refine hA ?_;clear hA hB A B))|((with_reducible first|refine z25 ?_|refine z26 ?_);intro K hK;(conv=>whnf))|(with_reducible refine z0 ?_)|((first|((with_reducible refine NV.i64 ?s ?_);case s=>omega)|((with_reducible refine NIf.decY ?s ?_);case s=>omega)|((with_reducible refine NIf.yes ?s ?_);case s=>rfl)|((with_reducible refine NH.mk ?s ?_);case s=>(and_intros<;>omega)))<;>(conv=>whnf))|(with_reducible first|refine z3 ?_|refine z4 ?_|refine z5 ?_|refine z6 ?_)|((with_reducible refine z29 ?_);intro A B hA hB;(conv=>whnf))|(with_reducible first|refine z1 ?_|refine z2 ?_|refine z9 ?_)))
            all_goals refine st_round (n+1) hnl (by omega) ?_ (MemFits.eq rfl)
            all_goals dsimp only
            all_goals rw [hcn]
            all_goals repeat (first|exact FitsSl.nil|refine FitsSl.any ?_|refine FitsSl.cons (Fit1.int (by first | rfl | omega)) ?_|refine FitsSl.cons (Fit1.bool rfl) ?_|refine FitsSl.cons (Fit1.str rfl) ?_|refine FitsSl.cons (Fit1.same (by intro h;cases h) (by with_reducible rfl)) ?_)
          | false =>
            rw [Bool.false_or] at hcn
            by_cases h12:x.kind=12
            · rw [decide_eq_true h12,Bool.true_and] at hcn
              (repeat' (first|(with_reducible first|(refine hK _ _ ?_;clear hK K)|(refine hA ?_;clear hA hB A B))|((with_reducible first|refine z25 ?_|refine z26 ?_);intro K hK;(conv=>whnf))|(with_reducible refine z0 ?_)|((first|((with_reducible refine NV.i64 ?s ?_);case s=>omega)|((with_reducible refine NIf.yes ?s ?_);case s=>(simp [h12];done))|((with_reducible refine NIf.no ?s ?_);case s=>(simp [h12];done))|((with_reducible refine NIf.decY ?s ?_);case s=>omega)|(with_reducible first|refine NN.cast ?_|refine NN.a6 ?_|refine NN.keep ?_)|((with_reducible refine NH.mk ?s ?_);case s=>(and_intros<;>omega))|(with_reducible refine NLd.of (by with_reducible assumption) ?_))<;>(conv=>whnf))|(with_reducible first|refine z3 ?_|refine z4 ?_|refine z5 ?_|refine z6 ?_)|((with_reducible refine z29 ?_);intro A B hA hB;(conv=>whnf))|(with_reducible first|refine z1 ?_|refine z2 ?_|refine z9 ?_)))
              all_goals refine st_round (n+1) hnl (by omega) ?_ (MemFits.eq rfl)
              all_goals dsimp only
              all_goals rw [hcn]
              all_goals repeat (first|exact FitsSl.nil|refine FitsSl.any ?_|refine FitsSl.cons (Fit1.int (by first | rfl | omega)) ?_|refine FitsSl.cons (Fit1.bool rfl) ?_|refine FitsSl.cons (Fit1.str rfl) ?_|refine FitsSl.cons (Fit1.same (by intro h;cases h) (by with_reducible rfl)) ?_)
            · rw [decide_eq_false h12,Bool.false_and] at hcn
              (repeat' (first|(with_reducible first|(refine hK _ _ ?_;clear hK K)|(refine hA ?_;clear hA hB A B))|((with_reducible first|refine z25 ?_|refine z26 ?_);intro K hK;(conv=>whnf))|(with_reducible refine z0 ?_)|((first|((with_reducible refine NV.i64 ?s ?_);case s=>omega)|((with_reducible refine NIf.no ?s ?_);case s=>(simp [h12];done))|((with_reducible refine NIf.decY ?s ?_);case s=>omega)|(with_reducible first|refine NN.cast ?_|refine NN.a6 ?_|refine NN.keep ?_)|((with_reducible refine NH.mk ?s ?_);case s=>(and_intros<;>omega))|(with_reducible refine NLd.of (by with_reducible assumption) ?_))<;>(conv=>whnf))|(with_reducible first|refine z3 ?_|refine z4 ?_|refine z5 ?_|refine z6 ?_)|((with_reducible refine z29 ?_);intro A B hA hB;(conv=>whnf))|(with_reducible first|refine z1 ?_|refine z2 ?_|refine z9 ?_)))
              all_goals refine st_round (n+1) hnl (by omega) ?_ (MemFits.eq rfl)
              all_goals dsimp only
              all_goals rw [hcn]
              all_goals repeat (first|exact FitsSl.nil|refine FitsSl.any ?_|refine FitsSl.cons (Fit1.int (by first | rfl | omega)) ?_|refine FitsSl.cons (Fit1.bool rfl) ?_|refine FitsSl.cons (Fit1.str rfl) ?_|refine FitsSl.cons (Fit1.same (by intro h;cases h) (by with_reducible rfl)) ?_)
        · have hnn:n=l.length:=by omega
          rw [hnn,List.take_length]
          generalize l.any Au.crash=q at *
          (repeat' (first|(with_reducible first|(refine hK _ _ ?_;clear hK K)|(refine hB ?_;clear hA hB A B)|(refine hK _ ?_;clear hK K))|((with_reducible first|refine z25 ?_|refine z26 ?_);intro K hK;(conv=>whnf))|(with_reducible refine z0 ?_)|((first|((with_reducible refine NIf.yes ?s ?_);case s=>(simp ;done))|((with_reducible refine NIf.no ?s ?_);case s=>(simp ;done))|((with_reducible refine NH.mk ?s ?_);case s=>(and_intros<;>omega))|((with_reducible refine NCall.isF 22 ?_);refine NCall.subE [0] (cc G hle) rfl (by decide) rfl rfl ?_)|((with_reducible refine NCall.isF 9 ?_);refine NCall.subE [0] (ca G) rfl (by decide) rfl rfl ?_))<;>(conv=>whnf))|(with_reducible first|refine z3 ?_|refine z4 ?_|refine z7 ?_|refine z8 ?_)|((with_reducible refine z29 ?_);intro A B hA hB;(conv=>whnf))|(with_reducible first|refine z1 ?_|refine z2 ?_|refine z10 ?_|refine z11 ?_|refine z19 ?_)|((with_reducible refine gR ?_);(refine z31 rfl ?_;intro K hK;(conv=>whnf)))))
          all_goals first | rfl | (exfalso;omega)
end Go.Proofs.Ytijkmhmgigaieaa
