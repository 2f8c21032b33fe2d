import Derived.Test.YtgphhbadnjfbjaaDoorSu15
import Derived.Test.YtgphhbadnjfbjaaDoorSu16
namespace Go.Proofs.YtgphhbadnjfbjaaDoor
open Go.Sx
set_option maxRecDepth 20000
set_option linter.unusedSimpArgs false
set_option linter.unusedVariables false
set_option maxHeartbeats 4000000
set_option linter.unusedVariables false
theorem back40_c (F:Heap) (hT:TabF F) (hE:ErrF F) (c:Su.Cfg) (lv hv wv sv:Value) (hc:Su.At F c lv hv wv sv) (hw:∀ l∈c.weights,∀ n∈l,n<18446744073709551616) (hn:c.weights.length≤9223372036854775807) (m:List UInt8) (hm:m.length≤9223372036854775807) :
    NCall Tryd.prog 4 [.agg (Su.cs c lv hv wv sv),.str m] [hpB F] fun r _=>r = .bool true:=by
  have ca:=fun G (h:F.le G)=>awake40_c G (hT.mono h) (hE.mono h)
  have cl:=light40_c F c lv hv wv sv hc hn
  cases hl:Su.light c with
  | false =>
    rw [hl] at cl
    unfold Su.cs at *
    refine ncall_of Tryd.func4 rfl (by decide) ?_
    (repeat' (first|(with_reducible first|(refine hK _ _ ?_;clear hK K)|(refine hA ?_;clear hA hB A B)|(refine hK _ ?_;clear hK K))|((with_reducible first|refine z25 ?_|refine z26 ?_);intro K hK;(conv=>whnf))|(with_reducible refine z0 ?_)|((first|((with_reducible refine NIf.yes ?s ?_);case s=>(simp ;done))|((with_reducible refine NH.mk ?s ?_);case s=>(and_intros<;>with_reducible rfl))|((with_reducible refine NCall.isF 6 ?_);refine NCall.subE [0] (cl) rfl (by decide) rfl rfl ?_)|((with_reducible refine NCall.isF 7 ?_);refine NCall.subE [0] (ca F F.le_refl) rfl (by decide) rfl rfl ?_))<;>(conv=>whnf))|(with_reducible first|refine z3 ?_|refine z4 ?_|refine z8 ?_)|((with_reducible refine z29 ?_);intro A B hA hB;(conv=>whnf))|(with_reducible first|refine z1 ?_|refine z2 ?_|refine z12 ?_)|((with_reducible refine gR ?_);(refine z31 rfl ?_;intro K hK;(conv=>whnf)))|((with_reducible refine gF ?_);(refine z33 rfl ?_;intro K hK;(conv=>whnf)))|((intro _;skip)<;>(conv=>whnf))))
    all_goals rfl
  | true =>
  have hl2:=hl
  unfold Su.light at hl2
  simp only [Bool.and_eq_true,decide_eq_true_eq,List.all_eq_true] at hl2
  obtain ⟨q1,q2,q3,q4,q5⟩:=hl2
  have ct:=times40_c F c lv hv wv sv hc q2 q3 q5
  rw [hl] at cl
  cases ht:Su.times c with
  | false =>
    rw [ht] at ct
    unfold Su.cs at *
    refine ncall_of Tryd.func4 rfl (by decide) ?_
    (repeat' (first|(with_reducible first|(refine hK _ _ ?_;clear hK K)|(refine hA ?_;clear hA hB A B)|(refine hK _ ?_;clear hK K))|((with_reducible first|refine z25 ?_|refine z26 ?_);intro K hK;(conv=>whnf))|(with_reducible refine z0 ?_)|((first|((with_reducible refine NIf.yes ?s ?_);case s=>(simp ;done))|((with_reducible refine NIf.no ?s ?_);case s=>(simp ;done))|((with_reducible refine NH.mk ?s ?_);case s=>(and_intros<;>with_reducible rfl))|((with_reducible refine NCall.isF 6 ?_);refine NCall.subE [0] (cl) rfl (by decide) rfl rfl ?_)|((with_reducible refine NCall.isF 14 ?_);refine NCall.subE [0] (ct) rfl (by decide) rfl rfl ?_)|((with_reducible refine NCall.isF 7 ?_);refine NCall.subE [0] (ca F F.le_refl) rfl (by decide) rfl rfl ?_))<;>(conv=>whnf))|(with_reducible first|refine z3 ?_|refine z4 ?_|refine z8 ?_)|((with_reducible refine z29 ?_);intro A B hA hB;(conv=>whnf))|(with_reducible first|refine z1 ?_|refine z2 ?_|refine z12 ?_)|((with_reducible refine gR ?_);(refine z31 rfl ?_;intro K hK;(conv=>whnf)))|((with_reducible refine gF ?_);(refine z33 rfl ?_;intro K hK;(conv=>whnf)))|((intro _;skip)<;>(conv=>whnf))))
    all_goals rfl
  | true =>
  rw [ht] at ct
  by_cases hm1:100<m.length
  · unfold Su.cs at *
    refine ncall_of Tryd.func4 rfl (by decide) ?_
    (repeat' (first|(with_reducible first|(refine hK _ _ ?_;clear hK K)|(refine hA ?_;clear hA hB A B)|(refine hK _ ?_;clear hK K))|((with_reducible first|refine z25 ?_|refine z26 ?_);intro K hK;(conv=>whnf))|(with_reducible refine z0 ?_)|((first|((with_reducible refine NIf.no ?s ?_);case s=>(simp ;done))|((with_reducible refine NIf.decY ?s ?_);case s=>omega)|((with_reducible refine NH.mk ?s ?_);case s=>(and_intros<;>with_reducible rfl))|((with_reducible refine NCall.isF 6 ?_);refine NCall.subE [0] (cl) rfl (by decide) rfl rfl ?_)|((with_reducible refine NCall.isF 14 ?_);refine NCall.subE [0] (ct) rfl (by decide) rfl rfl ?_)|((with_reducible refine NCall.isF 7 ?_);refine NCall.subE [0] (ca F F.le_refl) rfl (by decide) rfl rfl ?_))<;>(conv=>whnf))|(with_reducible first|refine z3 ?_|refine z4 ?_|refine z8 ?_)|((with_reducible refine z29 ?_);intro A B hA hB;(conv=>whnf))|(with_reducible first|refine z1 ?_|refine z2 ?_|refine z12 ?_)|((with_reducible refine gR ?_);(refine z31 rfl ?_;intro K hK;(conv=>whnf)))|((with_reducible refine gF ?_);(refine z33 rfl ?_;intro K hK;(conv=>whnf)))|((intro _;skip)<;>(conv=>whnf))))
    all_goals first | rfl | (exfalso;omega)
  have hcl:Su.Clean c:=Su.clean_of ht hw
  have hlen:=Su.text_short hcl.wide hl
  have cx:=text40_c F hT c lv hv wv sv hc hcl.wide (by omega)
  have ho1:=Su.out_back c hcl
  have ho2:=Su.out_more c hcl m
  have ho3:=Su.out_cut c hcl
  have hsh:=Su.short_of (c:=c) (by omega)
  have hpos:0<(Su.text c).length:=by
    rw [Su.text_parts]
    simp only [List.length_append]
    have:=Su.line_ge Su.wSwitches [c.sw]
    omega
  generalize Su.text c=s at *
  have p1:=parse40_c F hT hE s (by omega)
  rw [ho1] at p1
  have p2:=fun G (h:F.le G)=>parse40_c G (hT.mono h) (hE.mono h) (s++m++[10]) (by simp only [List.length_append,List.length_cons,List.length_nil];omega)
  have p3:=fun G (h:F.le G)=>parse40_c G (hT.mono h) (hE.mono h) s.dropLast (by rw [List.length_dropLast];omega)
  rw [← List.append_assoc] at ho2
  generalize Su.out (s++m++[10])=o2 at *
  generalize Su.out s.dropLast=o3 at *
  obtain ⟨c2,n2,e2⟩:=o2
  obtain ⟨c3,n3,e3⟩:=o3
  dsimp only at ho2 ho3 p2 p3
  subst ho2 ho3
  have cs:=fun G lw hw ww sw (h:F.le G) (hd:Su.At G c lw hw ww sw)=>refsame40_c G c c lv hv wv sv lw hw ww sw (hc.mono h) hd hsh hsh
  rw [decide_eq_true rfl] at cs
  have hdl:s.dropLast=s.take ((s.length:Int) - 1).toNat:=by rw [List.dropLast_eq_take];congr 1;omega
  rw [hdl] at p3
  dsimp only at p1
  unfold Su.cs at *
  refine ncall_of Tryd.func4 rfl (by decide) ?_
  (repeat' (first|(with_reducible first|(refine hK _ _ ?_;clear hK K)|(refine hB ?_;clear hA hB A B)|(refine hK _ ?_;clear hK K))|((with_reducible first|refine z25 ?_|refine z26 ?_);intro K hK;(conv=>whnf))|(with_reducible refine z0 ?_)|((first|((with_reducible refine NV.i64 ?s ?_);case s=>omega)|((with_reducible refine NIf.yes ?s ?_);case s=>(simp ;done))|((with_reducible refine NIf.no ?s ?_);case s=>(simp ;done))|((with_reducible refine NIf.decN ?s ?_);case s=>omega)|(with_reducible refine NN.keep ?_)|((with_reducible refine NH.mk ?s ?_);case s=>(and_intros<;>first|with_reducible rfl|((with_reducible refine gOnes ?_);rfl)|((with_reducible refine gLen ?_);rfl)|omega|(simp only [List.length_append,List.length_cons,List.length_nil];omega)))|((with_reducible refine NCall.isF 6 ?_);refine NCall.subE [0] (cl) rfl (by decide) rfl rfl ?_)|((with_reducible refine NCall.isF 14 ?_);refine NCall.subE [0] (ct) rfl (by decide) rfl rfl ?_)|((with_reducible refine NCall.isF 10 ?_);refine NCall.subE [0] (cx) rfl (by decide) rfl rfl ?_)|((with_reducible refine NCall.isF 8 ?_);refine NCall.subw [0] _ _ (p1) rfl (by decide) rfl ?_;rintro _ _ ⟨G1,lw,hw,ww,sw,h1,h2,rfl,rfl⟩;refine ⟨Nat.le_of_ble_eq_true rfl,_,rfl,?_⟩)|((with_reducible refine NCall.isF 8 ?_);refine NCall.subw [0] _ _ (p2 G1 h1) rfl (by decide) rfl ?_;rintro _ _ ⟨G2,lx,hx,wx,sx,h3,h4,rfl,rfl⟩;refine ⟨Nat.le_of_ble_eq_true rfl,_,rfl,?_⟩)|((with_reducible refine NCall.isF 8 ?_);refine NCall.subw [0] _ _ (p3 G2 (h1.trans h3)) rfl (by decide) rfl ?_;rintro _ _ ⟨G3,ly,hy,wy,sy,h5,h6,rfl,rfl⟩;refine ⟨Nat.le_of_ble_eq_true rfl,_,rfl,?_⟩)|((with_reducible refine NCall.isF 13 ?_);refine NCall.subw [0] _ _ (cs G3 lw hw ww sw ((h1.trans h3).trans h5) (h2.mono (h3.trans h5))) rfl (by decide) rfl ?_;rintro _ _ ⟨rfl,G4,h7,rfl⟩;refine ⟨Nat.le_of_ble_eq_true rfl,_,rfl,?_⟩)|((with_reducible refine NCall.isF 7 ?_);refine NCall.subE [0] (ca _ (((h1.trans h3).trans h5).trans h7)) rfl (by decide) rfl rfl ?_)|(with_reducible refine NS.keep ?_))<;>(conv=>whnf))|(with_reducible first|refine z3 ?_|refine z4 ?_|refine z6 ?_|refine z8 ?_)|((with_reducible refine z29 ?_);intro A B hA hB;(conv=>whnf))|(with_reducible first|refine z1 ?_|refine z2 ?_)|((with_reducible refine gR ?_);(refine z31 rfl ?_;intro K hK;(conv=>whnf)))|((with_reducible refine gF ?_);(refine z33 rfl ?_;intro K hK;(conv=>whnf)))|((intro _;skip)<;>(conv=>whnf))))
  all_goals first | rfl | (exfalso;omega)
end Go.Proofs.YtgphhbadnjfbjaaDoor
