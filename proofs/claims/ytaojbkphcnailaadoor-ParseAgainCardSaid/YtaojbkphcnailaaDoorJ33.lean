import Derived.Test.YtaojbkphcnailaaDoorJ28
import Derived.Test.YtaojbkphcnailaaDoorJ30
import Derived.Test.YtaojbkphcnailaaDoorJ32
import Derived.Test.YtaojbkphcnailaaDoorJ29
import Derived.Lib.LaidTab
import Derived.MakeChecks
import Derived.Test.YtaojbkphcnailaaDoorRows
namespace Go.Proofs.YtaojbkphcnailaaDoor
open Go.Sx
set_option maxRecDepth 20000
set_option linter.unusedSimpArgs false
set_option linter.unusedVariables false
set_option maxHeartbeats 8000000
set_option linter.unusedVariables false
theorem pagain29_c (F:Heap) (hT:TabF F) (s:List UInt8) (hs:s.length≤9223372036854775807) :
    NCall Tryd.prog 5 [.str s] [hpB F] fun r _=>r = .bool true:=by
  refine ncall_of Tryd.func5 rfl (by decide) ?_
  have ca:=fun G (h:F.le G)=>awake29_c G (hT.mono h)
  by_cases hl:1000<s.length
  · (repeat' (first|(with_reducible first|(refine hK _ _ ?_;clear hK K)|(refine hA ?_;clear hA hB A B)|(refine hK _ ?_;clear hK K))|((with_reducible refine z25 ?_);intro K hK;(conv=>whnf))|(with_reducible refine z0 ?_)|((first|((with_reducible refine NIf.decY ?s ?_);case s=>omega)|((with_reducible refine NCall.isF 6 ?_);refine NCall.subE [0] (ca F F.le_refl) rfl (by decide) rfl rfl ?_))<;>(conv=>whnf))|(with_reducible first|refine z3 ?_|refine z4 ?_|refine z8 ?_)|((with_reducible refine z29 ?_);intro A B hA hB;(conv=>whnf))|(with_reducible first|refine z1 ?_|refine z2 ?_|refine z12 ?_)|((with_reducible refine gR ?_);(refine z31 rfl ?_;intro K hK;(conv=>whnf)))|((with_reducible refine gF ?_);(refine z33 rfl ?_;intro K hK;(conv=>whnf)))))
    all_goals rfl
  have ha:(Ps.around s).length≤4000:=by unfold Ps.around;simp;omega
  have cp:=fun G=>parse27_all s (by omega) G
  have cp2:=fun G=>parse27_all (Ps.around s) ha G
  by_cases he:(Ps.out27 s).2.2=0
  · obtain ⟨x,h1,h2,h3⟩:=Ps.again he
    rw [h1] at cp
    have cS:=fun G a b c d (hx:Po.At G x a b) (hy:Po.At G x c d)=>same27_c G _ x x a b c d (Nat.le_refl _) (by omega) (by omega) hx hy
    rw [(Po.same_eq x x).2 rfl] at cS
    have cR:=fun G a b (hx:Po.At G x a b)=>right27_c G x a b (by omega) hx
    have cT:=fun G (h:F.le G) a b (hx:Po.At G x a b) (hr:Po.right x=true)=>text27_c G (hT.mono h) _ x a b (Nat.le_refl _) (by omega) (Po.right_fits' hr) hx
    have cB:=fun G (hr:Po.right x=true) (ht:(Po.text x).length≤4000)=>back27_c x hr ht G
    rcases h3 with h3 | h3
    · rw [h3] at cp2
      unfold Ps.around at cp2
      cases hr:Po.right x with
      | false =>
        rw [hr] at cR
        (repeat' (first|(with_reducible first|(refine hK _ _ ?_;clear hK K)|(refine hA ?_;clear hA hB A B)|(refine hB ?_;clear hA hB A B)|(refine hK _ ?_;clear hK K))|((with_reducible first|refine z25 ?_|refine z26 ?_);intro K hK;(conv=>whnf))|(with_reducible refine z0 ?_)|((first|((with_reducible refine NIf.yes ?s ?_);case s=>(simp ;done))|((with_reducible refine NIf.no ?s ?_);case s=>(simp ;done))|((with_reducible refine NIf.decN ?s ?_);case s=>omega)|((with_reducible refine NH.mk ?s ?_);case s=>(and_intros<;>first|with_reducible rfl|((with_reducible refine gOnes ?_);rfl)|((with_reducible refine gLen ?_);rfl)|(simp only [List.length_append,List.length_cons,List.length_nil];omega)))|((with_reducible refine NCall.isF 7 ?_);refine NCall.subw [0] _ _ (cp F) rfl (by decide) rfl ?_;rintro _ _ ⟨G1,pu,u,i1,i2,rfl,rfl⟩;refine ⟨Nat.le_of_ble_eq_true rfl,_,rfl,?_⟩)|((with_reducible refine NCall.isF 7 ?_);refine NCall.subw [0] _ _ (cp2 G1) rfl (by decide) rfl ?_;rintro _ _ ⟨G2,pw,w,i3,i4,rfl,rfl⟩;refine ⟨Nat.le_of_ble_eq_true rfl,_,rfl,?_⟩)|((with_reducible refine NCall.isF 23 ?_);refine NCall.subE [0] (cS G2 pu u pw w (Po.At.mono i3 i2) i4) rfl (by decide) rfl rfl ?_)|((with_reducible refine NCall.isF 24 ?_);refine NCall.subE [0] (cR G2 pu u (Po.At.mono i3 i2)) rfl (by decide) rfl rfl ?_)|((with_reducible refine NCall.isF 6 ?_);refine NCall.subE [0] (ca G2 (i1.trans i3)) rfl (by decide) rfl rfl ?_)|(with_reducible refine NS.keep ?_))<;>(conv=>whnf))|(with_reducible first|refine z3 ?_|refine z4 ?_|refine z6 ?_|refine z8 ?_)|((with_reducible refine z29 ?_);intro A B hA hB;(conv=>whnf))|(with_reducible first|refine z1 ?_|refine z2 ?_|refine z12 ?_)|((with_reducible refine gR ?_);(refine z31 rfl ?_;intro K hK;(conv=>whnf)))|((with_reducible refine gF ?_);(refine z33 rfl ?_;intro K hK;(conv=>whnf)))|((intro _;skip)<;>(conv=>whnf))))
        all_goals rfl
      | true =>
        rw [hr] at cR
        by_cases ht:4000<(Po.text x).length
        · (repeat' (first|(with_reducible first|(refine hK _ _ ?_;clear hK K)|(refine hA ?_;clear hA hB A B)|(refine hB ?_;clear hA hB A B)|(refine hK _ ?_;clear hK K))|((with_reducible first|refine z25 ?_|refine z26 ?_);intro K hK;(conv=>whnf))|(with_reducible refine z0 ?_)|((first|((with_reducible refine NIf.yes ?s ?_);case s=>(simp ;done))|((with_reducible refine NIf.no ?s ?_);case s=>(simp ;done))|((with_reducible refine NIf.decY ?s ?_);case s=>omega)|((with_reducible refine NIf.decN ?s ?_);case s=>omega)|((with_reducible refine NH.mk ?s ?_);case s=>(and_intros<;>first|with_reducible rfl|((with_reducible refine gOnes ?_);rfl)|((with_reducible refine gLen ?_);rfl)|(simp only [List.length_append,List.length_cons,List.length_nil];omega)))|((with_reducible refine NCall.isF 7 ?_);refine NCall.subw [0] _ _ (cp F) rfl (by decide) rfl ?_;rintro _ _ ⟨G1,pu,u,i1,i2,rfl,rfl⟩;refine ⟨Nat.le_of_ble_eq_true rfl,_,rfl,?_⟩)|((with_reducible refine NCall.isF 7 ?_);refine NCall.subw [0] _ _ (cp2 G1) rfl (by decide) rfl ?_;rintro _ _ ⟨G2,pw,w,i3,i4,rfl,rfl⟩;refine ⟨Nat.le_of_ble_eq_true rfl,_,rfl,?_⟩)|((with_reducible refine NCall.isF 23 ?_);refine NCall.subE [0] (cS G2 pu u pw w (Po.At.mono i3 i2) i4) rfl (by decide) rfl rfl ?_)|((with_reducible refine NCall.isF 24 ?_);refine NCall.subE [0] (cR G2 pu u (Po.At.mono i3 i2)) rfl (by decide) rfl rfl ?_)|((with_reducible refine NCall.isF 17 ?_);refine NCall.subE [0] (cT G2 (i1.trans i3) pu u (Po.At.mono i3 i2) hr) rfl (by decide) rfl rfl ?_)|((with_reducible refine NCall.isF 6 ?_);refine NCall.subE [0] (ca G2 (i1.trans i3)) rfl (by decide) rfl rfl ?_)|(with_reducible refine NS.keep ?_))<;>(conv=>whnf))|(with_reducible first|refine z3 ?_|refine z4 ?_|refine z6 ?_|refine z8 ?_)|((with_reducible refine z29 ?_);intro A B hA hB;(conv=>whnf))|(with_reducible first|refine z1 ?_|refine z2 ?_|refine z12 ?_)|((with_reducible refine gR ?_);(refine z31 rfl ?_;intro K hK;(conv=>whnf)))|((with_reducible refine gF ?_);(refine z33 rfl ?_;intro K hK;(conv=>whnf)))|((intro _;skip)<;>(conv=>whnf))))
          all_goals rfl
        · (repeat' (first|(with_reducible first|(refine hK _ _ ?_;clear hK K)|(refine hB ?_;clear hA hB A B)|(refine hK _ ?_;clear hK K))|((with_reducible first|refine z25 ?_|refine z26 ?_);intro K hK;(conv=>whnf))|(with_reducible refine z0 ?_)|((first|((with_reducible refine NIf.yes ?s ?_);case s=>(simp ;done))|((with_reducible refine NIf.no ?s ?_);case s=>(simp ;done))|((with_reducible refine NIf.decN ?s ?_);case s=>omega)|((with_reducible refine NH.mk ?s ?_);case s=>(and_intros<;>first|with_reducible rfl|((with_reducible refine gOnes ?_);rfl)|((with_reducible refine gLen ?_);rfl)|(simp only [List.length_append,List.length_cons,List.length_nil];omega)))|((with_reducible refine NCall.isF 7 ?_);refine NCall.subw [0] _ _ (cp F) rfl (by decide) rfl ?_;rintro _ _ ⟨G1,pu,u,i1,i2,rfl,rfl⟩;refine ⟨Nat.le_of_ble_eq_true rfl,_,rfl,?_⟩)|((with_reducible refine NCall.isF 7 ?_);refine NCall.subw [0] _ _ (cp2 G1) rfl (by decide) rfl ?_;rintro _ _ ⟨G2,pw,w,i3,i4,rfl,rfl⟩;refine ⟨Nat.le_of_ble_eq_true rfl,_,rfl,?_⟩)|((with_reducible refine NCall.isF 23 ?_);refine NCall.subE [0] (cS G2 pu u pw w (Po.At.mono i3 i2) i4) rfl (by decide) rfl rfl ?_)|((with_reducible refine NCall.isF 24 ?_);refine NCall.subE [0] (cR G2 pu u (Po.At.mono i3 i2)) rfl (by decide) rfl rfl ?_)|((with_reducible refine NCall.isF 17 ?_);refine NCall.subE [0] (cT G2 (i1.trans i3) pu u (Po.At.mono i3 i2) hr) rfl (by decide) rfl rfl ?_)|((with_reducible refine NCall.isF 7 ?_);refine NCall.subw [0] _ _ (cB G2 hr (by omega)) rfl (by decide) rfl ?_;rintro _ _ ⟨G3,pz,z,i5,i6,rfl,rfl⟩;refine ⟨Nat.le_of_ble_eq_true rfl,_,rfl,?_⟩)|((with_reducible refine NCall.isF 23 ?_);refine NCall.subE [0] (cS G3 pu u pz z (Po.At.mono i5 (Po.At.mono i3 i2)) i6) rfl (by decide) rfl rfl ?_)|((with_reducible refine NCall.isF 6 ?_);refine NCall.subE [0] (ca G3 (i1.trans (i3.trans i5))) rfl (by decide) rfl rfl ?_)|(with_reducible refine NS.keep ?_))<;>(conv=>whnf))|(with_reducible first|refine z3 ?_|refine z4 ?_|refine z6 ?_|refine z8 ?_)|((with_reducible refine z29 ?_);intro A B hA hB;(conv=>whnf))|(with_reducible first|refine z1 ?_|refine z2 ?_)|((with_reducible refine gR ?_);(refine z31 rfl ?_;intro K hK;(conv=>whnf)))|((with_reducible refine gF ?_);(refine z33 rfl ?_;intro K hK;(conv=>whnf)))|((intro _;skip)<;>(conv=>whnf))))
          all_goals rfl
    · generalize Ps.out27 (Ps.around s)=o at *
      obtain ⟨y,a,e⟩:=o
      dsimp only at h3 cp2
      subst h3
      unfold Ps.around at cp2
      cases hr:Po.right x with
      | false =>
        rw [hr] at cR
        (repeat' (first|(with_reducible first|(refine hK _ _ ?_;clear hK K)|(refine hA ?_;clear hA hB A B)|(refine hB ?_;clear hA hB A B)|(refine hK _ ?_;clear hK K))|((with_reducible first|refine z25 ?_|refine z26 ?_);intro K hK;(conv=>whnf))|(with_reducible refine z0 ?_)|((first|((with_reducible refine NIf.yes ?s ?_);case s=>(simp ;done))|((with_reducible refine NIf.no ?s ?_);case s=>(simp ;done))|((with_reducible refine NIf.decN ?s ?_);case s=>omega)|((with_reducible refine NH.mk ?s ?_);case s=>(and_intros<;>first|with_reducible rfl|((with_reducible refine gOnes ?_);rfl)|((with_reducible refine gLen ?_);rfl)|(simp only [List.length_append,List.length_cons,List.length_nil];omega)))|((with_reducible refine NCall.isF 7 ?_);refine NCall.subw [0] _ _ (cp F) rfl (by decide) rfl ?_;rintro _ _ ⟨G1,pu,u,i1,i2,rfl,rfl⟩;refine ⟨Nat.le_of_ble_eq_true rfl,_,rfl,?_⟩)|((with_reducible refine NCall.isF 7 ?_);refine NCall.subw [0] _ _ (cp2 G1) rfl (by decide) rfl ?_;rintro _ _ ⟨G2,pw,w,i3,i4,rfl,rfl⟩;refine ⟨Nat.le_of_ble_eq_true rfl,_,rfl,?_⟩)|((with_reducible refine NCall.isF 24 ?_);refine NCall.subE [0] (cR G2 pu u (Po.At.mono i3 i2)) rfl (by decide) rfl rfl ?_)|((with_reducible refine NCall.isF 6 ?_);refine NCall.subE [0] (ca G2 (i1.trans i3)) rfl (by decide) rfl rfl ?_)|(with_reducible refine NS.keep ?_))<;>(conv=>whnf))|(with_reducible first|refine z3 ?_|refine z4 ?_|refine z6 ?_|refine z8 ?_)|((with_reducible refine z29 ?_);intro A B hA hB;(conv=>whnf))|(with_reducible first|refine z1 ?_|refine z2 ?_|refine z12 ?_)|((with_reducible refine gR ?_);(refine z31 rfl ?_;intro K hK;(conv=>whnf)))|((with_reducible refine gF ?_);(refine z33 rfl ?_;intro K hK;(conv=>whnf)))|((intro _;skip)<;>(conv=>whnf))))
        all_goals rfl
      | true =>
        rw [hr] at cR
        by_cases ht:4000<(Po.text x).length
        · (repeat' (first|(with_reducible first|(refine hK _ _ ?_;clear hK K)|(refine hA ?_;clear hA hB A B)|(refine hB ?_;clear hA hB A B)|(refine hK _ ?_;clear hK K))|((with_reducible first|refine z25 ?_|refine z26 ?_);intro K hK;(conv=>whnf))|(with_reducible refine z0 ?_)|((first|((with_reducible refine NIf.no ?s ?_);case s=>(simp ;done))|((with_reducible refine NIf.decY ?s ?_);case s=>omega)|((with_reducible refine NIf.decN ?s ?_);case s=>omega)|((with_reducible refine NH.mk ?s ?_);case s=>(and_intros<;>first|with_reducible rfl|((with_reducible refine gOnes ?_);rfl)|((with_reducible refine gLen ?_);rfl)|(simp only [List.length_append,List.length_cons,List.length_nil];omega)))|((with_reducible refine NCall.isF 7 ?_);refine NCall.subw [0] _ _ (cp F) rfl (by decide) rfl ?_;rintro _ _ ⟨G1,pu,u,i1,i2,rfl,rfl⟩;refine ⟨Nat.le_of_ble_eq_true rfl,_,rfl,?_⟩)|((with_reducible refine NCall.isF 7 ?_);refine NCall.subw [0] _ _ (cp2 G1) rfl (by decide) rfl ?_;rintro _ _ ⟨G2,pw,w,i3,i4,rfl,rfl⟩;refine ⟨Nat.le_of_ble_eq_true rfl,_,rfl,?_⟩)|((with_reducible refine NCall.isF 24 ?_);refine NCall.subE [0] (cR G2 pu u (Po.At.mono i3 i2)) rfl (by decide) rfl rfl ?_)|((with_reducible refine NCall.isF 17 ?_);refine NCall.subE [0] (cT G2 (i1.trans i3) pu u (Po.At.mono i3 i2) hr) rfl (by decide) rfl rfl ?_)|((with_reducible refine NCall.isF 6 ?_);refine NCall.subE [0] (ca G2 (i1.trans i3)) rfl (by decide) rfl rfl ?_)|(with_reducible refine NS.keep ?_))<;>(conv=>whnf))|(with_reducible first|refine z3 ?_|refine z4 ?_|refine z6 ?_|refine z8 ?_)|((with_reducible refine z29 ?_);intro A B hA hB;(conv=>whnf))|(with_reducible first|refine z1 ?_|refine z2 ?_|refine z12 ?_)|((with_reducible refine gR ?_);(refine z31 rfl ?_;intro K hK;(conv=>whnf)))|((with_reducible refine gF ?_);(refine z33 rfl ?_;intro K hK;(conv=>whnf)))|((intro _;skip)<;>(conv=>whnf))))
          all_goals rfl
        · (repeat' (first|(with_reducible first|(refine hK _ _ ?_;clear hK K)|(refine hB ?_;clear hA hB A B)|(refine hK _ ?_;clear hK K))|((with_reducible first|refine z25 ?_|refine z26 ?_);intro K hK;(conv=>whnf))|(with_reducible refine z0 ?_)|((first|((with_reducible refine NIf.yes ?s ?_);case s=>(simp ;done))|((with_reducible refine NIf.no ?s ?_);case s=>(simp ;done))|((with_reducible refine NIf.decN ?s ?_);case s=>omega)|((with_reducible refine NH.mk ?s ?_);case s=>(and_intros<;>first|with_reducible rfl|((with_reducible refine gOnes ?_);rfl)|((with_reducible refine gLen ?_);rfl)|(simp only [List.length_append,List.length_cons,List.length_nil];omega)))|((with_reducible refine NCall.isF 7 ?_);refine NCall.subw [0] _ _ (cp F) rfl (by decide) rfl ?_;rintro _ _ ⟨G1,pu,u,i1,i2,rfl,rfl⟩;refine ⟨Nat.le_of_ble_eq_true rfl,_,rfl,?_⟩)|((with_reducible refine NCall.isF 7 ?_);refine NCall.subw [0] _ _ (cp2 G1) rfl (by decide) rfl ?_;rintro _ _ ⟨G2,pw,w,i3,i4,rfl,rfl⟩;refine ⟨Nat.le_of_ble_eq_true rfl,_,rfl,?_⟩)|((with_reducible refine NCall.isF 24 ?_);refine NCall.subE [0] (cR G2 pu u (Po.At.mono i3 i2)) rfl (by decide) rfl rfl ?_)|((with_reducible refine NCall.isF 17 ?_);refine NCall.subE [0] (cT G2 (i1.trans i3) pu u (Po.At.mono i3 i2) hr) rfl (by decide) rfl rfl ?_)|((with_reducible refine NCall.isF 7 ?_);refine NCall.subw [0] _ _ (cB G2 hr (by omega)) rfl (by decide) rfl ?_;rintro _ _ ⟨G3,pz,z,i5,i6,rfl,rfl⟩;refine ⟨Nat.le_of_ble_eq_true rfl,_,rfl,?_⟩)|((with_reducible refine NCall.isF 23 ?_);refine NCall.subE [0] (cS G3 pu u pz z (Po.At.mono i5 (Po.At.mono i3 i2)) i6) rfl (by decide) rfl rfl ?_)|((with_reducible refine NCall.isF 6 ?_);refine NCall.subE [0] (ca G3 (i1.trans (i3.trans i5))) rfl (by decide) rfl rfl ?_)|(with_reducible refine NS.keep ?_))<;>(conv=>whnf))|(with_reducible first|refine z3 ?_|refine z4 ?_|refine z6 ?_|refine z8 ?_)|((with_reducible refine z29 ?_);intro A B hA hB;(conv=>whnf))|(with_reducible first|refine z1 ?_|refine z2 ?_)|((with_reducible refine gR ?_);(refine z31 rfl ?_;intro K hK;(conv=>whnf)))|((with_reducible refine gF ?_);(refine z33 rfl ?_;intro K hK;(conv=>whnf)))|((intro _;skip)<;>(conv=>whnf))))
          all_goals rfl
  · generalize Ps.out27 s=o at *
    obtain ⟨x,a,e⟩:=o
    dsimp only at he cp
    (repeat' (first|(with_reducible first|(refine hK _ _ ?_;clear hK K)|(refine hA ?_;clear hA hB A B)|(refine hB ?_;clear hA hB A B)|(refine hK _ ?_;clear hK K))|((with_reducible refine z25 ?_);intro K hK;(conv=>whnf))|(with_reducible refine z0 ?_)|((first|with_reducible refine NIf.not_ ?_|((with_reducible refine NIf.decN ?s ?_);case s=>first|assumption|omega)|((with_reducible refine NH.mk ?s ?_);case s=>(and_intros<;>first|with_reducible rfl|((with_reducible refine gOnes ?_);rfl)|((with_reducible refine gLen ?_);rfl)))|((with_reducible refine NCall.isF 7 ?_);refine NCall.subw [0] _ _ (cp F) rfl (by decide) rfl ?_;rintro _ _ ⟨G,pu,u,h1,h2,rfl,rfl⟩;refine ⟨Nat.le_of_ble_eq_true rfl,_,rfl,?_⟩)|((with_reducible refine NCall.isF 6 ?_);refine NCall.subE [0] (ca G h1) rfl (by decide) rfl rfl ?_))<;>(conv=>whnf))|(with_reducible first|refine z3 ?_|refine z4 ?_|refine z6 ?_|refine z8 ?_)|((with_reducible refine z29 ?_);intro A B hA hB;(conv=>whnf))|(with_reducible first|refine z1 ?_|refine z2 ?_|refine z12 ?_)|((with_reducible refine gR ?_);(refine z31 rfl ?_;intro K hK;(conv=>whnf)))|((with_reducible refine gF ?_);(refine z33 rfl ?_;intro K hK;(conv=>whnf)))|((intro _;skip)<;>(conv=>whnf))))
    all_goals rfl
end Go.Proofs.YtaojbkphcnailaaDoor
namespace Go.Proofs.YtaojbkphcnailaaDoor
open Go.Sx
theorem laidVars_mem {P:Program} {w:World} {n:String} {d:DataW Unit}:∀ {l:List (String × DataW Unit)} {ps:List MemPlace},DataW.LaidVars P w l ps→(n,d)∈l →
    ∃ g t cs fuel p,P.globalNamed n=some g∧(P.globals[g]?).map (·.type)=some t∧w.var? P n=some cs∧DataW.trod (fun _=>()) P w 0 (fun _=>true) false fuel t cs.toList=some (d,p)
  | [],_,_,h=>by cases h
  | (n',d')::l,_,h,hm=>by
    obtain ⟨g,t,cs,fuel,p,q,h1,h2,h3,h4,h5,_⟩:=h
    rcases List.mem_cons.1 hm with e | hm
    · cases e;exact ⟨g,t,cs,fuel,p,h1,h2,h3,h4⟩
    · exact laidVars_mem h5 hm
theorem tabF_of {W:World} {l:List (String × DataW Unit)} (hp:(l.all fun x=>x.2.handleName?.isNone)=true) (h:laidMetH Tryd.prog l W)
    (hm : ("internal/strconv.uint64pow10", (Lib.tabData .u64 Lib.pow10Tab : DataW Unit)) ∈ l) : TabF (cellsW W) := by
  rw [MakeChecks.laidMetH_plain _ _ _ hp] at h
  obtain ⟨ps,h1,_⟩:=h
  obtain ⟨g,t,cs,fuel,p,hg,ht,hv,hd⟩:=laidVars_mem h1 hm
  have hg' : Tryd.prog.globalNamed "internal/strconv.uint64pow10" = some 0 := by kernel_rfl
  obtain rfl:=Option.some.inj (hg'.symm.trans hg)
  have ht':(Tryd.prog.globals[0]?).map (·.type)=some 146:=by kernel_rfl
  obtain rfl:=Option.some.inj (ht'.symm.trans ht)
  have hc:=Lib.cells_of_tab Tryd.underlying146 Tryd.underlying135 (by kernel_rfl) (by kernel_rfl) hd
  unfold World.var? at hv
  rw [hg'] at hv
  simp only [Option.bind_some] at hv
  split at hv
  · rename_i cs' t fr e
    injection hv with hv
    subst hv
    refine ⟨t,fr,?_⟩
    show W.heap[0]?=_
    rw [e]
    have:cs'=(Lib.pow10Tab.map fun z=>Value.int .u64 z).toArray:=by rw [← hc]
    rw [this]
  · cases hv
end Go.Proofs.YtaojbkphcnailaaDoor
