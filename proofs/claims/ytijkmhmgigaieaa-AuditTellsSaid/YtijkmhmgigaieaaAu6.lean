import Derived.Test.YtijkmhmgigaieaaAu5
namespace Go.Proofs.Ytijkmhmgigaieaa
open Go.Sx
set_option maxRecDepth 20000
set_option linter.unusedSimpArgs false
set_option linter.unusedVariables false
set_option maxHeartbeats 4000000
set_option linter.unusedVariables false
theorem name2_c:NCall Try.prog 19 [.int .i64 2] [] fun r m=>r = .str [108,111,115,116]∧m=[]:=by
  refine NCall.fits (K:=fun r m=>r = .str [108,111,115,116]∧m=[]) ?_ fun r m' h=>⟨r,_,rfl,h.2 ▸ MemFits.eq rfl,h.1,rfl⟩
  refine ncall_of Try.func19 rfl (by decide) ?_
  (repeat' (first|(with_reducible first|(refine hK _ _ ?_;clear hK K)|(refine hB ?_;clear hA hB A B)|(refine hK _ ?_;clear hK K))|((with_reducible first|refine z25 ?_|refine z26 ?_);intro K hK;(conv=>whnf))|(with_reducible refine z0 ?_)|((first|((with_reducible refine NV.i64 ?s ?_);case s=>omega)|((with_reducible refine NIf.decN ?s ?_);case s=>omega)|(with_reducible first|refine NN.a2 ?_|refine NN.keep ?_)|((with_reducible refine NH.mk ?s ?_);case s=>(and_intros<;>omega)))<;>(conv=>whnf))|(with_reducible first|refine z3 ?_|refine z4 ?_|refine z6 ?_|refine z8 ?_)|((with_reducible refine z29 ?_);intro A B hA hB;(conv=>whnf))|(with_reducible first|refine z1 ?_|refine z2 ?_)|((with_reducible refine gR ?_);(refine z31 rfl ?_;intro K hK;(conv=>whnf)))|((with_reducible refine gF ?_);(refine z33 rfl ?_;intro K hK;(conv=>whnf)))))
  all_goals exact ⟨rfl,rfl⟩
namespace Au
def exT:Tp.T:=⟨1,[],[⟨0,3⟩]⟩
def exR:List (List (List Int)):=[[[3]]]
def exL:List Tc.E:=[⟨1,0,0,0,0,0⟩,⟨2,0,0,0,0,0⟩,⟨3,0,0,0,0,0⟩]
def exD:List Tc.E:=[⟨1,0,4,0,0,0⟩,⟨4,0,4,0,0,0⟩]
theorem ex_none:check exT exR exL=[]:=by decide +kernel
theorem ex_lost:check exT exR exD=[(2,4)]:=by decide +kernel
theorem one_row {α:Type} {F:Heap} {R:α→List Value→Prop} {b:Nat} {y:α} {v:Value} (h:F.c ⟨b,0,none⟩ v) (hR:R y [v]):RowF F 1 R (.slice (some ⟨b,0,none⟩) 1 1) [y] :=
  ⟨⟨_,_,rfl,Nat.le_refl _,fun h=>by cases h⟩,fun k x hx=>by
    obtain ⟨hk,rfl⟩:=List.getElem?_eq_some_iff.1 hx
    have hk0:k=0:=by simpa using hk
    subst hk0
    exact ⟨[v],hR,rfl,h,trivial⟩⟩
theorem ex_mem (F:Heap) (b6 b4 b3 b2 b1 b0 i3 i2:Nat):∃ G,F.le G∧Tp.At G exT (.slice none 0 0) (.slice (some ⟨b6,0,none⟩) 1 1)∧RRow G (.slice (some ⟨b2,0,none⟩) 1 1) exR∧Tc.ERow G (.slice (some ⟨b1,0,none⟩) 3 3) exL∧Tc.ERow G (.slice (some ⟨b0,0,none⟩) 2 2) exD ∧
    MemFits [hpB F,⟨⟨b6,0,none⟩,[.int .i64 0,.int .i64 3],.row (.slice (some ⟨b6,0,none⟩) 1 1) 60 2 1⟩,⟨⟨b4,0,none⟩,[.int .i64 3],.row (.slice (some ⟨b4,0,none⟩) 1 1) 3 1 1⟩,⟨⟨b3,0,none⟩,[.sl i3 (.slice (some ⟨b4,0,none⟩) 1 1) 1],.row (.slice (some ⟨b3,0,none⟩) 1 1) 30 1 1⟩,⟨⟨b2,0,none⟩,[.sl i2 (.slice (some ⟨b3,0,none⟩) 1 1) 1],.row (.slice (some ⟨b2,0,none⟩) 1 1) 27 1 1⟩,⟨⟨b1,0,none⟩,[.int .i64 1,.int .i64 0,.int .i64 0,.int .i64 0,.int .i64 0,.int .i64 0,.int .i64 2,.int .i64 0,.int .i64 0,.int .i64 0,.int .i64 0,.int .i64 0,.int .i64 3,.int .i64 0,.int .i64 0,.int .i64 0,.int .i64 0,.int .i64 0],.row (.slice (some ⟨b1,0,none⟩) 3 3) 34 6 3⟩,⟨⟨b0,0,none⟩,[.int .i64 1,.int .i64 0,.int .i64 4,.int .i64 0,.int .i64 0,.int .i64 0,.int .i64 4,.int .i64 0,.int .i64 4,.int .i64 0,.int .i64 0,.int .i64 0],.row (.slice (some ⟨b0,0,none⟩) 2 2) 34 6 2⟩] [hpB G]:=by
  refine ⟨_,?_,?_,?_,?_,?_,(MemFits.freeze.trans (MemFits.freeze.trans (MemFits.freeze.trans (MemFits.freeze.trans (MemFits.freeze.trans MemFits.freeze)))))⟩
  · exact addF.old.trans (addF.old.trans (addF.old.trans (addF.old.trans (addF.old.trans addF.old))))
  · exact ⟨RowF.nil,Tp.HRow.mono (addF.old.trans (addF.old.trans (addF.old.trans (addF.old.trans addF.old)))) (rowF_new (enc:=Tp.hsV) ⟨_,_,rfl,Nat.le_refl _,fun h=>by cases h⟩ rfl (fun x _=>rfl))⟩
  · refine RRow.mono (addF.old.trans addF.old) (one_row (.inr ⟨0,rfl,rfl⟩) ⟨_,_,Rt.Row.mono addF.old (one_row (.inr ⟨0,rfl,rfl⟩) ⟨_,_,Tc.irow_mono addF.old (one_row (.inr ⟨0,rfl,rfl⟩) rfl),rfl⟩),rfl⟩)
  · exact Tc.erow_mono addF.old (rowF_new (enc:=Tc.E.V) ⟨_,_,rfl,Nat.le_refl _,fun h=>by cases h⟩ rfl (fun x _=>rfl))
  · exact rowF_new (enc:=Tc.E.V) ⟨_,_,rfl,Nat.le_refl _,fun h=>by cases h⟩ rfl (fun x _=>rfl)
theorem ex_few:fewR exR:=⟨by decide,fun r hr=>by
  rw [show r=[[3]] by simpa [exR] using hr]
  exact ⟨by decide,fun w hw=>by rw [show w=[3] by simpa using hw];decide⟩⟩
end Au
theorem ex_one (F:Heap) (b6 b4 b3 b2 b1 b0 i3 i2 j1 j2 j3:Nat) :
    NCall Try.prog 11 [.agg [.int .i64 1,.raw (.slice none 0 0),.sl j1 (.slice (some ⟨b6,0,none⟩) 1 1) 1],.sl j2 (.slice (some ⟨b2,0,none⟩) 1 1) 1,.sl j3 (.slice (some ⟨b0,0,none⟩) 2 2) 2]
      [hpB F,⟨⟨b6,0,none⟩,[.int .i64 0,.int .i64 3],.row (.slice (some ⟨b6,0,none⟩) 1 1) 60 2 1⟩,⟨⟨b4,0,none⟩,[.int .i64 3],.row (.slice (some ⟨b4,0,none⟩) 1 1) 3 1 1⟩,⟨⟨b3,0,none⟩,[.sl i3 (.slice (some ⟨b4,0,none⟩) 1 1) 1],.row (.slice (some ⟨b3,0,none⟩) 1 1) 30 1 1⟩,⟨⟨b2,0,none⟩,[.sl i2 (.slice (some ⟨b3,0,none⟩) 1 1) 1],.row (.slice (some ⟨b2,0,none⟩) 1 1) 27 1 1⟩,⟨⟨b1,0,none⟩,[.int .i64 1,.int .i64 0,.int .i64 0,.int .i64 0,.int .i64 0,.int .i64 0,.int .i64 2,.int .i64 0,.int .i64 0,.int .i64 0,.int .i64 0,.int .i64 0,.int .i64 3,.int .i64 0,.int .i64 0,.int .i64 0,.int .i64 0,.int .i64 0],.row (.slice (some ⟨b1,0,none⟩) 3 3) 34 6 3⟩,⟨⟨b0,0,none⟩,[.int .i64 1,.int .i64 0,.int .i64 4,.int .i64 0,.int .i64 0,.int .i64 0,.int .i64 4,.int .i64 0,.int .i64 4,.int .i64 0,.int .i64 0,.int .i64 0],.row (.slice (some ⟨b0,0,none⟩) 2 2) 34 6 2⟩]
      fun r m=>∃ G v,F.le G∧(Tp.At G Au.exT (.slice none 0 0) (.slice (some ⟨b6,0,none⟩) 1 1)∧Au.RRow G (.slice (some ⟨b2,0,none⟩) 1 1) Au.exR∧Tc.ERow G (.slice (some ⟨b1,0,none⟩) 3 3) Au.exL)∧SlOk v 1∧(G.c ((addrOf v).add 0) (.int .i64 2)∧G.c ((addrOf v).add 1) (.int .i64 4))∧r = .hs v 1∧m=[hpB G,hpB noHeap,hpB noHeap,hpB noHeap,hpB noHeap,hpB noHeap,hpB noHeap]:=by
  obtain ⟨G,h1,h2,h3,h4,h5,h6⟩:=Au.ex_mem F b6 b4 b3 b2 b1 b0 i3 i2
  have cc:=check42_c G Au.exT _ _ _ _ Au.exR Au.exD h2 (by decide) (by decide) h3 Au.ex_few h5 (by decide)
  rw [Au.ex_lost] at cc
  refine NCall.fits (NCall.pre cc rfl h6) fun r m' ⟨G2,u,g1,g2,g3,g4⟩=>?_
  subst g3 g4
  obtain ⟨us,e1,_,e2⟩:=g2.at_ 0 (2,4) rfl
  subst e1
  exact ⟨_,_,rfl,(MemFits.noHeap _).trans ((MemFits.noHeap _).trans ((MemFits.noHeap _).trans ((MemFits.noHeap _).trans ((MemFits.noHeap _).trans ((MemFits.noHeap _).trans (MemFits.pick [6,0,1,2,3,4,5] (by decide) rfl)))))),G2,u,h1.trans g1,⟨h2.mono g1,h3.mono g1,Tc.erow_mono g1 h4⟩,g2.ok,⟨e2.1,e2.2.1⟩,rfl,rfl⟩
theorem ex_two (F:Heap) (b6 b2 b1 j1 j2 j3:Nat) (h2:Tp.At F Au.exT (.slice none 0 0) (.slice (some ⟨b6,0,none⟩) 1 1)) (h3:Au.RRow F (.slice (some ⟨b2,0,none⟩) 1 1) Au.exR) (v0:Value) (c0:F.c ((addrOf v0).add 0) (.int .i64 2)) (c1:F.c ((addrOf v0).add 1) (.int .i64 4)) (h4:Tc.ERow F (.slice (some ⟨b1,0,none⟩) 3 3) Au.exL) :
    NCall Try.prog 11 [.agg [.int .i64 1,.raw (.slice none 0 0),.sl j1 (.slice (some ⟨b6,0,none⟩) 1 1) 1],.sl j2 (.slice (some ⟨b2,0,none⟩) 1 1) 1,.sl j3 (.slice (some ⟨b1,0,none⟩) 3 3) 3] [hpB F] fun r m=>∃ G v,F.le G∧SlOk v 0∧(G.c ((addrOf v0).add 0) (.int .i64 2)∧G.c ((addrOf v0).add 1) (.int .i64 4))∧r = .hs v 0∧m=[hpB G]:=by
  have cc:=check42_c F Au.exT _ _ _ _ Au.exR Au.exL h2 (by decide) (by decide) h3 Au.ex_few h4 (by decide)
  rw [Au.ex_none] at cc
  refine NCall.fits (NCall.pre cc rfl (MemFits.eq rfl)) fun r m' ⟨G2,u,g1,g2,g3,g4⟩=>?_
  subst g3 g4
  exact ⟨_,_,rfl,MemFits.eq rfl,G2,u,g1,g2.ok,⟨g1.c _ _ c0,g1.c _ _ c1⟩,rfl,rfl⟩
theorem awake42_c (F:Heap):NCall Try.prog 9 [] [hpB F] fun r m=>r = .bool true∧m=[hpB F]:=by
  refine NCall.fits (K:=fun r m=>r = .bool true∧∃ F',F.le F'∧MemFits m [hpB F']) ?_ fun r m' ⟨h1,F',h2,h3⟩=>⟨r,_,rfl,h3.trans (MemFits.less h2 []),h1,rfl⟩
  refine ncall_of Try.func9 rfl (by decide) ?_
  (repeat' (first|(with_reducible first|(refine hK _ _ ?_;clear hK K)|(refine hK _ ?_;clear hK K))|((with_reducible first|refine z25 ?_|refine z26 ?_);intro K hK;(conv=>whnf))|(with_reducible refine z0 ?_)|((first|((with_reducible refine NIf.yes ?s ?_);case s=>(simp ;done))|(with_reducible first|refine NN.lit ?_|refine NN.a6 ?_)|((with_reducible refine NH.mk ?s ?_);case s=>(and_intros<;>first|with_reducible rfl|((with_reducible refine gOnes ?_);rfl)|((with_reducible refine gLen ?_);rfl)|omega))|((with_reducible refine NCall.isF 19 ?_);refine NCall.subE [] (name2_c) rfl (by decide) rfl rfl ?_)|((with_reducible refine NCall.isF 11 ?_);refine NCall.subw [0,1,3,4,5,6,7] _ _ (ex_one F _ _ _ _ _ _ _ _ _ _ _) rfl (by decide) rfl ?_;rintro _ _ ⟨G,v,hle,⟨k1,k2,k3⟩,hok,⟨c0,c1⟩,rfl,rfl⟩;refine ⟨Nat.le_of_ble_eq_true rfl,_,rfl,?_⟩)|((with_reducible refine NCall.isF 11 ?_);refine NCall.subw [0] _ _ (ex_two G _ _ _ _ _ _ k1 k2 v c0 c1 k3) rfl (by decide) rfl ?_;rintro _ _ ⟨G2,v2,hle2,hok2,⟨d0,d1⟩,rfl,rfl⟩;refine ⟨Nat.le_of_ble_eq_true rfl,_,rfl,?_⟩)|(with_reducible refine NLd.of (by with_reducible assumption) ?_))<;>(conv=>whnf))|(with_reducible first|refine z3 ?_|refine z4 ?_|refine z8 ?_|refine z1 ?_|refine z2 ?_)|((with_reducible refine gR ?_);(refine z31 rfl ?_;intro K hK;(conv=>whnf)))|((with_reducible refine gF ?_);(refine z33 rfl ?_;intro K hK;(conv=>whnf)))|((refine NFlat_iff.2 ⟨⟨?s1,?s2⟩,?_⟩;(case s1=>decide +kernel);(case s2=>decide +kernel))<;>(conv=>whnf))|((intro _;skip)<;>(conv=>whnf))))
  all_goals exact ⟨rfl,G2,hle.trans hle2,MemFits.pre 1 rfl⟩
end Go.Proofs.Ytijkmhmgigaieaa
