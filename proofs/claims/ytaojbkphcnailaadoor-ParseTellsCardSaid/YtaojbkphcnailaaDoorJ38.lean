import Derived.Test.YtaojbkphcnailaaDoorJ34
import Derived.Test.YtaojbkphcnailaaDoorJ36
import Derived.Test.YtaojbkphcnailaaDoorJ37
import Derived.Test.YtaojbkphcnailaaDoorJ17
import Derived.Lib.LaidTab
import Derived.MakeChecks
import Derived.Test.YtaojbkphcnailaaDoorRows
namespace Go.Proofs.YtaojbkphcnailaaDoor
open Go.Sx
set_option maxRecDepth 20000
set_option linter.unusedSimpArgs false
set_option linter.unusedVariables false
set_option maxHeartbeats 8000000
set_option linter.unusedVariables false
theorem ptells29_c (F:Heap) (hT:TabF F) (s:List UInt8) (hs:s.length≤9223372036854775807) :
    NCall Tryd.prog 3 [.str s] [hpB F] fun r _=>r = .bool true:=by
  have ca:=fun G (h:F.le G)=>awake29_c G (hT.mono h)
  by_cases hl:1000<s.length
  · refine ncall_of Tryd.func3 rfl (by decide) ?_
    (repeat' (first|(with_reducible first|(refine hK _ _ ?_;clear hK K)|(refine hA ?_;clear hA hB A B)|(refine hK _ ?_;clear hK K))|((with_reducible refine z25 ?_);intro K hK;(conv=>whnf))|(with_reducible refine z0 ?_)|((first|((with_reducible refine NIf.decY ?s ?_);case s=>omega)|((with_reducible refine NCall.isF 6 ?_);refine NCall.subE [0] (ca F F.le_refl) rfl (by decide) rfl rfl ?_))<;>(conv=>whnf))|(with_reducible first|refine z3 ?_|refine z4 ?_|refine z8 ?_)|((with_reducible refine z29 ?_);intro A B hA hB;(conv=>whnf))|(with_reducible first|refine z1 ?_|refine z2 ?_|refine z12 ?_)|((with_reducible refine gR ?_);(refine z31 rfl ?_;intro K hK;(conv=>whnf)))|((with_reducible refine gF ?_);(refine z33 rfl ?_;intro K hK;(conv=>whnf)))))
    all_goals rfl
  have cp:=fun G=>parse27_all s (by omega) G
  have cq:=fun G=>parse26_all s (by omega) G
  have dp:=fun G=>refparse27_c s (by omega) G
  have dq:=fun G=>refparse26_c s (by omega) G
  have hx:=Ps.tot_all s
  have hy:=Ps.size_all s
  generalize Ps.out27 s=o at *
  generalize Ps.out26 s=o2 at *
  obtain ⟨x,a,e⟩:=o
  obtain ⟨p,a2,e2⟩:=o2
  dsimp only at cp cq dp dq hx hy
  have ch:=fun G a b (h:Po.At G x a b)=>theirs27_c _ G x a b (Nat.le_refl _) (by omega) h
  have dh:=fun G a (h:Pd.Row G a p.l)=>theirs26_c _ G p a (Nat.le_refl _) (by omega) h
  have cs:=fun G a b a' b' (h:Po.At G x a b) (h':Po.At G x a' b')=>refsame27_c G _ x x a b a' b' (Nat.le_refl _) (by omega) (by omega) h h'
  have ds:=fun G a a' (h:Pd.Row G a p.l) (h':Pd.Row G a' p.l)=>refsame26_c G _ p p a a' (Nat.le_refl _) (by omega) (by omega) h h'
  rw [(Po.same_eq x x).2 rfl] at cs
  rw [(Pd.same_eq p p).2 rfl] at ds
  have mo:=fun {G G':Heap} (h:G.le G') {a b} (h':Po.At G x a b)=>Po.At.mono h h'
  have mp:=fun {G G':Heap} (h:G.le G') {a} (h':Pd.Row G a p.l)=>Pd.Row.mono h h'
  clear hx hy
  refine ncall_of Tryd.func3 rfl (by decide) ?_
  (repeat' (first|(with_reducible first|(refine hK _ _ ?_;clear hK K)|(refine hB ?_;clear hA hB A B)|(refine hK _ ?_;clear hK K))|((with_reducible refine z25 ?_);intro K hK;(conv=>whnf))|(with_reducible refine z0 ?_)|((first|((with_reducible refine NIf.yes ?s ?_);case s=>(simp ;done))|((with_reducible refine NIf.no ?s ?_);case s=>(simp ;done))|((with_reducible refine NIf.decN ?s ?_);case s=>omega)|((with_reducible refine NH.mk ?s ?_);case s=>(and_intros<;>first|with_reducible rfl|((with_reducible refine gOnes ?_);rfl)|((with_reducible refine gLen ?_);rfl)|((with_reducible refine gKept ?_);exact rfl)|rfl))|((with_reducible refine NCall.isF 7 ?_);refine NCall.subw [0] _ _ (cp F) rfl (by decide) rfl ?_;rintro _ _ ⟨G1,pu,u,i1,i2,rfl,rfl⟩;refine ⟨Nat.le_of_ble_eq_true rfl,_,rfl,?_⟩)|((with_reducible refine NCall.isF 8 ?_);refine NCall.subw [0] _ _ (dp G1) rfl (by decide) rfl ?_;rintro _ _ ⟨G2,pw,w,i3,i4,rfl,rfl⟩;refine ⟨Nat.le_of_ble_eq_true rfl,_,rfl,?_⟩)|((with_reducible refine NCall.isF 10 ?_);refine NCall.subw [0] _ _ (ch G2 pu u (mo i3 i2)) rfl (by decide) rfl ?_;rintro _ _ ⟨G3,a3,u3,i5,i6,rfl,rfl⟩;refine ⟨Nat.le_of_ble_eq_true rfl,_,rfl,?_⟩)|((with_reducible refine NCall.isF 9 ?_);refine NCall.subE [0] (cs G3 a3 u3 pw w i6 (mo i5 i4)) rfl (by decide) rfl rfl ?_)|((with_reducible refine NCall.isF 11 ?_);refine NCall.subw [0] _ _ (cq G3) rfl (by decide) rfl ?_;rintro _ _ ⟨H1,b1,j1,j2,rfl,rfl⟩;refine ⟨Nat.le_of_ble_eq_true rfl,_,rfl,?_⟩)|((with_reducible refine NCall.isF 12 ?_);refine NCall.subw [0] _ _ (dq H1) rfl (by decide) rfl ?_;rintro _ _ ⟨H2,b2,j3,j4,rfl,rfl⟩;refine ⟨Nat.le_of_ble_eq_true rfl,_,rfl,?_⟩)|((with_reducible refine NCall.isF 14 ?_);refine NCall.subw [0] _ _ (dh H2 b1 (mp j3 j2)) rfl (by decide) rfl ?_;rintro _ _ ⟨H3,b3,j5,j6,rfl,rfl⟩;refine ⟨Nat.le_of_ble_eq_true rfl,_,rfl,?_⟩)|((with_reducible refine NCall.isF 13 ?_);refine NCall.subE [0] (ds H3 b3 b2 j6 (mp j5 j4)) rfl (by decide) rfl rfl ?_)|((with_reducible refine NCall.isF 6 ?_);refine NCall.subE [0] (ca H3 ((i1.trans (i3.trans i5)).trans (j1.trans (j3.trans j5)))) rfl (by decide) rfl rfl ?_))<;>(conv=>whnf))|(with_reducible refine st_ordSout ?_)|((with_reducible refine gNOK ?_);(first|(refine st_ordK1 rfl (by kernel_rfl) rfl ?_;intro K hK;(conv=>whnf))|(refine st_ordK1g rfl (by kernel_rfl) rfl ?_;intro K hK;(conv=>whnf))|refine st_ordK0 rfl (by kernel_rfl) ?_|refine st_ordKA rfl rfl (by kernel_rfl) (by intro h;cases h) ?_))|((with_reducible refine gNEK ?_);(first|(refine st_eachK ?_ ?_;(intro K hK;(conv=>whnf)))|(refine st_eachKg rfl ?_ ?_;(intro K hK;(conv=>whnf)))|exact st_eachK0))|((with_reducible refine gX ?_);(first|refine st_orderS [0] rfl rfl (by kernel_rfl) _ rfl ?_|(with_reducible first|refine z3 ?_|refine z4 ?_|refine z6 ?_|refine z8 ?_)|((with_reducible refine z29 ?_);intro A B hA hB;(conv=>whnf))))|(with_reducible first|refine z1 ?_|refine z2 ?_)|((with_reducible refine gR ?_);(refine z31 rfl ?_;intro K hK;(conv=>whnf)))|((with_reducible refine gF ?_);(refine z33 rfl ?_;intro K hK;(conv=>whnf)))|((intro _;skip)<;>(conv=>whnf))))
  all_goals first | rfl | (exfalso;omega)
end Go.Proofs.YtaojbkphcnailaaDoor
namespace Go.Proofs.YtaojbkphcnailaaDoor
open Go.Sx
theorem laidVars_mem {P:Program} {w:World} {n:String} {d:DataW Unit}:∀ {l:List (String × DataW Unit)} {ps:List MemPlace},DataW.LaidVars P w l ps→(n,d)∈l →
    ∃ g t cs fuel p,P.globalNamed n=some g∧(P.globals[g]?).map (·.type)=some t∧w.var? P n=some cs∧DataW.trod (fun _=>()) P w 0 (fun _=>true) false fuel t cs.toList=some (d,p)
  | [],_,_,h=>by cases h
  | (n',d')::l,_,h,hm=>by
    obtain ⟨g,t,cs,fuel,p,q,h1,h2,h3,h4,h5,_⟩:=h
    rcases List.mem_cons.1 hm with e | hm
    · cases e;exact ⟨g,t,cs,fuel,p,h1,h2,h3,h4⟩
    · exact laidVars_mem h5 hm
theorem tabF_of {W:World} {l:List (String × DataW Unit)} (hp:(l.all fun x=>x.2.handleName?.isNone)=true) (h:laidMetH Tryd.prog l W)
    (hm : ("internal/strconv.uint64pow10", (Lib.tabData .u64 Lib.pow10Tab : DataW Unit)) ∈ l) : TabF (cellsW W) := by
  rw [MakeChecks.laidMetH_plain _ _ _ hp] at h
  obtain ⟨ps,h1,_⟩:=h
  obtain ⟨g,t,cs,fuel,p,hg,ht,hv,hd⟩:=laidVars_mem h1 hm
  have hg' : Tryd.prog.globalNamed "internal/strconv.uint64pow10" = some 0 := by kernel_rfl
  obtain rfl:=Option.some.inj (hg'.symm.trans hg)
  have ht':(Tryd.prog.globals[0]?).map (·.type)=some 146:=by kernel_rfl
  obtain rfl:=Option.some.inj (ht'.symm.trans ht)
  have hc:=Lib.cells_of_tab Tryd.underlying146 Tryd.underlying135 (by kernel_rfl) (by kernel_rfl) hd
  unfold World.var? at hv
  rw [hg'] at hv
  simp only [Option.bind_some] at hv
  split at hv
  · rename_i cs' t fr e
    injection hv with hv
    subst hv
    refine ⟨t,fr,?_⟩
    show W.heap[0]?=_
    rw [e]
    have:cs'=(Lib.pow10Tab.map fun z=>Value.int .u64 z).toArray:=by rw [← hc]
    rw [this]
  · cases hv
end Go.Proofs.YtaojbkphcnailaaDoor
