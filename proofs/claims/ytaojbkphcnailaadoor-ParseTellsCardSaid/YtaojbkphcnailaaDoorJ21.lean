import Derived.Test.YtaojbkphcnailaaDoorJ19
import Derived.Test.YtaojbkphcnailaaDoorJ20
namespace Go.Proofs.YtaojbkphcnailaaDoor
open Go.Sx
set_option maxRecDepth 20000
set_option linter.unusedSimpArgs false
set_option linter.unusedVariables false
set_option maxHeartbeats 4000000
set_option linter.unusedVariables false
namespace Ps
theorem Out26.ok {F:Heap} {l:List Lx.T} {q:R Pd.T} {i j:Nat} {x:Pd.T} {r:AV} {m:List Blk} (hq:q = .ok x j) (h:Out26 F l q i r m):∃ u G,F.le G∧Pd.Row G u x.l∧i≤j∧j<l.length∧r = .tup [.agg (Pd.cs x u),.int .i64 j,.bool true]∧m=[hpB G]:=by
  obtain ⟨y,u,k,G,ok,h1,h2,h3,h4,h5,h6,h7⟩:=h
  rw [hq] at h5
  cases ok with
  | false=>cases h5
  | true=>cases h5;exact ⟨u,G,h1,h2,h3,h4,h6,h7⟩
theorem Out26.no {F:Heap} {l:List Lx.T} {q:R Pd.T} {i j:Nat} {r:AV} {m:List Blk} (hq:q = .bad j) (h:Out26 F l q i r m):∃ y u G,F.le G∧Pd.Row G u y.l∧i≤j∧j<l.length∧r = .tup [.agg (Pd.cs y u),.int .i64 j,.bool false]∧m=[hpB G]:=by
  obtain ⟨y,u,k,G,ok,h1,h2,h3,h4,h5,h6,h7⟩:=h
  rw [hq] at h5
  cases ok with
  | true=>cases h5
  | false=>cases h5;exact ⟨y,u,G,h1,h2,h3,h4,h6,h7⟩
theorem Out27.ok {F:Heap} {l:List Lx.T} {q:R Po.T} {i j:Nat} {x:Po.T} {r:AV} {m:List Blk} (hq:q = .ok x j) (h:Out27 F l q i r m):∃ pu u G,F.le G∧Po.At G x pu u∧i≤j∧j<l.length∧r = .tup [.agg (Po.cs x pu u),.int .i64 j,.bool true]∧m=[hpB G]:=by
  obtain ⟨y,pu,u,k,G,ok,h1,h2,h3,h4,h5,h6,h7⟩:=h
  rw [hq] at h5
  cases ok with
  | false=>cases h5
  | true=>cases h5;exact ⟨pu,u,G,h1,h2,h3,h4,h6,h7⟩
theorem Out27.no {F:Heap} {l:List Lx.T} {q:R Po.T} {i j:Nat} {r:AV} {m:List Blk} (hq:q = .bad j) (h:Out27 F l q i r m):∃ y pu u G,F.le G∧Po.At G y pu u∧i≤j∧j<l.length∧r = .tup [.agg (Po.cs y pu u),.int .i64 j,.bool false]∧m=[hpB G]:=by
  obtain ⟨y,pu,u,k,G,ok,h1,h2,h3,h4,h5,h6,h7⟩:=h
  rw [hq] at h5
  cases ok with
  | true=>cases h5
  | false=>cases h5;exact ⟨y,pu,u,G,h1,h2,h3,h4,h6,h7⟩
end Ps
theorem refchoice_c (v:Value) (l:List Lx.T) (hl:Ps.Good l) (cnd:Nat→Ps.R Pd.T) (sp:Nat→Ps.R Po.T) (i0:Nat) (hi0:i0<l.length) (hc:Ps.D26 v l 33 (cnd i0) i0) (hs:∀ i,i0<i→i<l.length→Ps.D27 v l 87 (sp i) i):Ps.D27 v l 109 (Ps.choice (l.map Lx.b) cnd sp i0) i0:=by
  intro F hv
  refine NCall.know (K:=fun r m=>∃ (y:Po.T) (j:Nat) (G:Heap) (pw w:Value) (ok:Bool),F.le G∧i0≤j∧j<l.length∧Ps.choice (l.map Lx.b) cnd sp i0=(if ok=true then .ok y j else .bad j)∧r.den=(AV.tup [.agg (Po.cs y pw w),.int .i64 j,.bool ok]).den∧((Po.At G y pw w∧MemFits m [hpB G])∨(∃ ps:List (Po.L),y.l=ps.map (·.x)∧Pd.Row G pw y.p.l∧(∀ p∈ps,Po.At G p.x p.pu p.u)∧MemFits m [hpB G,⟨addrOf w,Po.psC ps,.row w 37 8 ps.length⟩]))) ?_ fun r m' hq ⟨w0,hw0⟩=>?_
  rotate_left
  · obtain ⟨y,j,G,pw,w,ok,h1,h2,h3,h4,h5,h6⟩:=hq
    rcases h6 with ⟨h6,h7⟩ | ⟨ps,e,hpw,h6,h7⟩
    · exact ⟨_,_,h5.symm,h7,y,pw,w,j,G,ok,h1,h6,h2,h3,h4,rfl,rfl⟩
    · have hok:=((h7 w0 hw0).1.row (List.mem_cons_of_mem _ (List.mem_cons_self ..))).1
      have hrow:=rowF_new (F:=G) (sz:=8) (enc:=Po.psV) hok (Po.psC_den ps) (fun x _=>rfl)
      have hr:=Po.row_of hrow fun p hp=>Po.At.mono addF.old (h6 p hp)
      rw [← e] at hr
      exact ⟨_,_,h5.symm,h7.trans (MemFits.freeze (m:=[])),y,pw,w,j,_,ok,h1.trans addF.old,⟨Pd.Row.mono addF.old hpw,hr⟩,h2,h3,h4,rfl,rfl⟩
  have hn:=hl.few
  have c0:=hc F hv
  have ct:=fun G (h:F.le G) j (hj:j<l.length) s=>refis29_c G v l (Ps.Toks.mono h hv) hn (List.getElem?_eq_getElem hj) s
  have nt:=fun j (hj:j<l.length) s=>hl.next (List.getElem?_eq_getElem hj) (s:=s)
  have hspec:Ps.choice (l.map Lx.b) cnd sp i0=match cnd i0 with
    | .bad j=>.bad j
    | .ok c j=>if Ps.is (l.map Lx.b) j Ps.wThen=true then match sp (j+1) with
        | .bad j=>.bad j
        | .ok a j=>if Ps.is (l.map Lx.b) j Ps.wElse=true then match sp (j+1) with
            | .bad j=>.bad j
            | .ok b j=>.ok (.mk 5 c 0 0 [a,b]) j
          else .bad j
      else .bad j:=by
    unfold Ps.choice
    cases cnd i0 with
    | bad=>rfl
    | ok c j =>
      dsimp only
      split
      · cases sp (j+1) with
        | bad=>rfl
        | ok a j' =>
          dsimp only
          split
          · cases sp (j'+1)<;>rfl
          · rfl
      · rfl
  generalize Ps.choice (l.map Lx.b) cnd sp i0=res at *
  refine ncall_of Tryd.func109 rfl (by decide) ?_
  cases hq0:cnd i0 with
  | bad k =>
    rw [hq0] at c0 hspec
    have c0:=c0.mono fun r m h=>Ps.Out26.no rfl h
    (repeat' (first|(with_reducible first|(refine hK _ _ ?_;clear hK K)|(refine hA ?_;clear hA hB A B)|(refine hK _ ?_;clear hK K))|((with_reducible first|refine z25 ?_|refine z26 ?_);intro K hK;(conv=>whnf))|(with_reducible refine z0 ?_)|((first|with_reducible refine NIf.not_ ?_|((with_reducible refine NIf.yes ?s ?_);case s=>rfl)|((with_reducible refine NIf.no ?s ?_);case s=>rfl)|(with_reducible refine NN.a5 ?_)|((with_reducible refine NH.mk ?s ?_);case s=>(and_intros<;>first|with_reducible rfl|((with_reducible refine gOnes ?_);rfl)|((with_reducible refine gLen ?_);rfl)))|((with_reducible refine NCall.isF 33 ?_);refine NCall.subw [0] _ _ (c0) rfl (by decide) rfl ?_;rintro _ _ ⟨y,u,G,h1,h2,h3,h4,rfl,rfl⟩;refine ⟨Nat.le_of_ble_eq_true rfl,_,rfl,?_⟩))<;>(conv=>whnf))|(with_reducible first|refine z3 ?_|refine z4 ?_|refine z8 ?_)|((with_reducible refine z29 ?_);intro A B hA hB;(conv=>whnf))|(with_reducible first|refine z1 ?_|refine z2 ?_|refine z12 ?_)|((with_reducible refine gR ?_);(refine z31 rfl ?_;intro K hK;(conv=>whnf)))|((with_reducible refine gF ?_);(refine z33 rfl ?_;intro K hK;(conv=>whnf)))|((intro _;skip)<;>(conv=>whnf))))
    all_goals exact ⟨.mk 5 y 0 0 [],k,G,u,.slice none 0 0,false,h1,h3,h4,hspec,rfl,.inl ⟨⟨h2,RowF.nil⟩,MemFits.pre 1 rfl⟩⟩
  | ok c j =>
  rw [hq0] at c0 hspec
  dsimp only at hspec
  have c0:=c0.mono fun r m h=>Ps.Out26.ok rfl h
  have ct1:=fun G h hj=>ct G h j hj Ps.wThen
  have nt1:=fun hj=>nt j hj Ps.wThen
  cases q1:Ps.is (l.map Lx.b) j Ps.wThen with
  | false =>
    rw [q1] at ct1
    rw [q1,if_neg (by decide)] at hspec
    unfold Ps.wThen at ct1
    (repeat' (first|(with_reducible first|(refine hK _ _ ?_;clear hK K)|(refine hA ?_;clear hA hB A B)|(refine hK _ ?_;clear hK K))|((with_reducible first|refine z25 ?_|refine z26 ?_);intro K hK;(conv=>whnf))|(with_reducible refine z0 ?_)|((first|with_reducible refine NIf.not_ ?_|((with_reducible refine NIf.yes ?s ?_);case s=>rfl)|((with_reducible refine NIf.no ?s ?_);case s=>rfl)|(with_reducible refine NN.a5 ?_)|((with_reducible refine NH.mk ?s ?_);case s=>(and_intros<;>first|with_reducible rfl|((with_reducible refine gOnes ?_);rfl)|((with_reducible refine gLen ?_);rfl)))|((with_reducible refine NCall.isF 33 ?_);refine NCall.subw [0] _ _ (c0) rfl (by decide) rfl ?_;rintro _ _ ⟨u,G,h1,h2,h3,h4,rfl,rfl⟩;refine ⟨Nat.le_of_ble_eq_true rfl,_,rfl,?_⟩)|((with_reducible refine NCall.isF 66 ?_);refine NCall.subE [0] (ct1 G h1 h4) rfl (by decide) rfl rfl ?_))<;>(conv=>whnf))|(with_reducible first|refine z3 ?_|refine z4 ?_|refine z8 ?_)|((with_reducible refine z29 ?_);intro A B hA hB;(conv=>whnf))|(with_reducible first|refine z1 ?_|refine z2 ?_|refine z12 ?_)|((with_reducible refine gR ?_);(refine z31 rfl ?_;intro K hK;(conv=>whnf)))|((with_reducible refine gF ?_);(refine z33 rfl ?_;intro K hK;(conv=>whnf)))|((intro _;skip)<;>(conv=>whnf))))
    all_goals exact ⟨.mk 5 c 0 0 [],j,G,u,.slice none 0 0,false,h1,h3,h4,hspec,rfl,.inl ⟨⟨h2,RowF.nil⟩,MemFits.pre 1 rfl⟩⟩
  | true =>
  rw [q1] at ct1
  rw [q1,if_pos rfl] at hspec
  unfold Ps.wThen at ct1
  have cs1:=fun G (h:F.le G) h1 h2=>hs (j+1) h1 h2 G (Ps.Toks.mono h hv)
  cases hq1:sp (j+1) with
  | bad k =>
    rw [hq1] at hspec cs1
    have cs1:=fun G h h1 h2=>(cs1 G h h1 h2).mono fun r m h=>Ps.Out27.no rfl h
    (repeat' (first|(with_reducible first|(refine hK _ _ ?_;clear hK K)|(refine hA ?_;clear hA hB A B)|(refine hB ?_;clear hA hB A B)|(refine hK _ ?_;clear hK K))|((with_reducible first|refine z25 ?_|refine z26 ?_);intro K hK;(conv=>whnf))|(with_reducible refine z0 ?_)|((first|((with_reducible refine NV.i64 ?s ?_);case s=>omega)|with_reducible refine NIf.not_ ?_|((with_reducible refine NIf.yes ?s ?_);case s=>rfl)|((with_reducible refine NIf.no ?s ?_);case s=>rfl)|(with_reducible refine NN.a5 ?_)|((with_reducible refine NH.mk ?s ?_);case s=>(and_intros<;>first|with_reducible rfl|((with_reducible refine gOnes ?_);rfl)|((with_reducible refine gLen ?_);rfl)))|((with_reducible refine NCall.isF 33 ?_);refine NCall.subw [0] _ _ (c0) rfl (by decide) rfl ?_;rintro _ _ ⟨u,G,h1,h2,h3,h4,rfl,rfl⟩;refine ⟨Nat.le_of_ble_eq_true rfl,_,rfl,?_⟩)|((with_reducible refine NCall.isF 66 ?_);refine NCall.subE [0] (ct1 G h1 h4) rfl (by decide) rfl rfl ?_)|((with_reducible refine NCall.isF 87 ?_);refine NCall.subw [0] _ _ (cs1 G h1 (by omega) (nt1 h4 q1)) rfl (by decide) rfl ?_;rintro _ _ ⟨y,py,uy,G2,g1,g2,g3,g4,rfl,rfl⟩;refine ⟨Nat.le_of_ble_eq_true rfl,_,rfl,?_⟩))<;>(conv=>whnf))|(with_reducible first|refine z3 ?_|refine z4 ?_|refine z6 ?_|refine z8 ?_)|((with_reducible refine z29 ?_);intro A B hA hB;(conv=>whnf))|(with_reducible first|refine z1 ?_|refine z2 ?_|refine z12 ?_)|((with_reducible refine gR ?_);(refine z31 rfl ?_;intro K hK;(conv=>whnf)))|((with_reducible refine gF ?_);(refine z33 rfl ?_;intro K hK;(conv=>whnf)))|((intro _;skip)<;>(conv=>whnf))))
    all_goals exact ⟨.mk 5 c 0 0 [],k,G2,u,.slice none 0 0,false,h1.trans g1,by omega,g4,hspec,rfl,.inl ⟨⟨Pd.Row.mono g1 h2,RowF.nil⟩,MemFits.pre 1 rfl⟩⟩
  | ok a ja =>
  rw [hq1] at hspec cs1
  dsimp only at hspec
  have cs1:=fun G h h1 h2=>(cs1 G h h1 h2).mono fun r m h=>Ps.Out27.ok rfl h
  have ct2:=fun G h hj=>ct G h ja hj Ps.wElse
  have nt2:=fun hj=>nt ja hj Ps.wElse
  cases q2:Ps.is (l.map Lx.b) ja Ps.wElse with
  | false =>
    rw [q2] at ct2
    rw [q2,if_neg (by decide)] at hspec
    unfold Ps.wElse at ct2
    (repeat' (first|(with_reducible first|(refine hK _ _ ?_;clear hK K)|(refine hA ?_;clear hA hB A B)|(refine hB ?_;clear hA hB A B)|(refine hK _ ?_;clear hK K))|((with_reducible first|refine z25 ?_|refine z26 ?_);intro K hK;(conv=>whnf))|(with_reducible refine z0 ?_)|((first|((with_reducible refine NV.i64 ?s ?_);case s=>omega)|with_reducible refine NIf.not_ ?_|((with_reducible refine NIf.yes ?s ?_);case s=>rfl)|((with_reducible refine NIf.no ?s ?_);case s=>rfl)|(with_reducible refine NN.a5 ?_)|((with_reducible refine NH.mk ?s ?_);case s=>(and_intros<;>first|with_reducible rfl|((with_reducible refine gOnes ?_);rfl)|((with_reducible refine gLen ?_);rfl)))|((with_reducible refine NCall.isF 33 ?_);refine NCall.subw [0] _ _ (c0) rfl (by decide) rfl ?_;rintro _ _ ⟨u,G,h1,h2,h3,h4,rfl,rfl⟩;refine ⟨Nat.le_of_ble_eq_true rfl,_,rfl,?_⟩)|((with_reducible refine NCall.isF 66 ?_);refine NCall.subE [0] (ct1 G h1 h4) rfl (by decide) rfl rfl ?_)|((with_reducible refine NCall.isF 87 ?_);refine NCall.subw [0] _ _ (cs1 G h1 (by omega) (nt1 h4 q1)) rfl (by decide) rfl ?_;rintro _ _ ⟨py,uy,G2,g1,g2,g3,g4,rfl,rfl⟩;refine ⟨Nat.le_of_ble_eq_true rfl,_,rfl,?_⟩)|((with_reducible refine NCall.isF 66 ?_);refine NCall.subE [0] (ct2 G2 (h1.trans g1) g4) rfl (by decide) rfl rfl ?_))<;>(conv=>whnf))|(with_reducible first|refine z3 ?_|refine z4 ?_|refine z6 ?_|refine z8 ?_)|((with_reducible refine z29 ?_);intro A B hA hB;(conv=>whnf))|(with_reducible first|refine z1 ?_|refine z2 ?_|refine z12 ?_)|((with_reducible refine gR ?_);(refine z31 rfl ?_;intro K hK;(conv=>whnf)))|((with_reducible refine gF ?_);(refine z33 rfl ?_;intro K hK;(conv=>whnf)))|((intro _;skip)<;>(conv=>whnf))))
    all_goals exact ⟨.mk 5 c 0 0 [],ja,G2,u,.slice none 0 0,false,h1.trans g1,by omega,g4,hspec,rfl,.inl ⟨⟨Pd.Row.mono g1 h2,RowF.nil⟩,MemFits.pre 1 rfl⟩⟩
  | true =>
  rw [q2] at ct2
  rw [q2,if_pos rfl] at hspec
  unfold Ps.wElse at ct2
  have cs2:=fun G (h:F.le G) h1 h2=>hs (ja+1) h1 h2 G (Ps.Toks.mono h hv)
  unfold Ps.Out27 at cs2
  (repeat' (first|(with_reducible first|(refine hK _ _ ?_;clear hK K)|(refine hB ?_;clear hA hB A B)|(refine hK _ ?_;clear hK K))|((with_reducible first|refine z25 ?_|refine z26 ?_);intro K hK;(conv=>whnf))|(with_reducible refine z0 ?_)|((first|((with_reducible refine NV.i64 ?s ?_);case s=>omega)|with_reducible refine NIf.not_ ?_|((with_reducible refine NIf.yes ?s ?_);case s=>rfl)|(with_reducible refine NN.a5 ?_)|((with_reducible refine NH.mk ?s ?_);case s=>(and_intros<;>first|with_reducible rfl|((with_reducible refine gOnes ?_);rfl)|((with_reducible refine gLen ?_);rfl)|omega))|((with_reducible refine NCall.isF 33 ?_);refine NCall.subw [0] _ _ (c0) rfl (by decide) rfl ?_;rintro _ _ ⟨u,G,h1,h2,h3,h4,rfl,rfl⟩;refine ⟨Nat.le_of_ble_eq_true rfl,_,rfl,?_⟩)|((with_reducible refine NCall.isF 66 ?_);refine NCall.subE [0] (ct1 G h1 h4) rfl (by decide) rfl rfl ?_)|((with_reducible refine NCall.isF 87 ?_);refine NCall.subw [0] _ _ (cs1 G h1 (by omega) (nt1 h4 q1)) rfl (by decide) rfl ?_;rintro _ _ ⟨py,uy,G2,g1,g2,g3,g4,rfl,rfl⟩;refine ⟨Nat.le_of_ble_eq_true rfl,_,rfl,?_⟩)|((with_reducible refine NCall.isF 66 ?_);refine NCall.subE [0] (ct2 G2 (h1.trans g1) g4) rfl (by decide) rfl rfl ?_)|((with_reducible refine NCall.isF 87 ?_);refine NCall.subw [0] _ _ (cs2 G2 (h1.trans g1) (by omega) (nt2 g4 q2)) rfl (by decide) rfl ?_;rintro _ _ ⟨d,pd,ud,jd,G3,ok,e1,e2,e3,e4,e5,rfl,rfl⟩;refine ⟨Nat.le_of_ble_eq_true rfl,_,rfl,?_⟩))<;>(conv=>whnf))|(with_reducible first|refine z3 ?_|refine z4 ?_|refine z6 ?_|refine z8 ?_)|((with_reducible refine z29 ?_);intro A B hA hB;(conv=>whnf))|(with_reducible first|refine z1 ?_|refine z2 ?_)|((with_reducible refine gR ?_);(refine z31 rfl ?_;intro K hK;(conv=>whnf)))|((with_reducible refine gF ?_);(refine z33 rfl ?_;intro K hK;(conv=>whnf)))|((intro _;skip)<;>(conv=>whnf))))
  rename_i bw
  refine ⟨.mk 5 c 0 0 [a,d],jd,G3,u,.slice (some ⟨bw,0,none⟩) 2 2,ok,(h1.trans g1).trans e1,by omega,e4,by rw [hspec,e5];cases ok<;>rfl,rfl,.inr ⟨[⟨a,py,uy⟩,⟨d,pd,ud⟩],rfl,Pd.Row.mono (g1.trans e1) h2,fun p hp=>?_,MemFits.pick [0,6] (by decide) rfl⟩⟩
  rcases List.mem_cons.1 hp with rfl | hp
  · exact Po.At.mono e1 g2
  · rw [List.mem_singleton.1 hp];exact e2
end Go.Proofs.YtaojbkphcnailaaDoor
namespace Go.Proofs.YtaojbkphcnailaaDoor
open Go.Sx
set_option maxRecDepth 20000
set_option linter.unusedSimpArgs false
set_option linter.unusedVariables false
set_option maxHeartbeats 4000000
set_option linter.unusedVariables false
theorem refstep_c (v:Value) (l:List Lx.T) (hl:Ps.Good l) (ha:Ps.Apart l):∀ (n i:Nat),l.length - i≤n→i<l.length→Ps.D27 v l 87 (Ps.step (l.map Lx.b) n i) i
  | 0,i,h0,h1=>by omega
  | n+1,i,hni,hil=>by
    intro F hv
    refine NCall.fits (K:=fun r m=>∃ (y:Po.T) (j:Nat) (G:Heap) (pw w:Value) (ok:Bool),F.le G∧i≤j∧j<l.length∧Ps.step (l.map Lx.b) (n+1) i=(if ok=true then .ok y j else .bad j)∧r.den=(AV.tup [.agg (Po.cs y pw w),.int .i64 j,.bool ok]).den∧Po.At G y pw w∧MemFits m [hpB G]) ?_ fun r m' ⟨y,j,G,pw,w,ok,h1,h2,h3,h4,h5,h6,h7⟩=>⟨_,_,h5.symm,h7,y,pw,w,j,G,ok,h1,h6,h2,h3,h4,rfl,rfl⟩
    have hn:=hl.few
    have hx:l[i]?=some l[i]:=List.getElem?_eq_getElem hil
    have hlen:(l.map Lx.b).length=l.length:=List.length_map ..
    have hih:∀ i',i+1≤i'→i'<l.length→Ps.D27 v l 87 (Ps.step (l.map Lx.b) n i') i':=fun i' h1 h2=>refstep_c v l hl ha n i' (by omega) h2
    have hip:=fun h=>refrows_c v l hl (Ps.row (l.map Lx.b) (Ps.step (l.map Lx.b) n)) (i+1) h fun i' h1 h2=>refrow_c v l hl (Ps.step (l.map Lx.b) n) i' h2 fun i'' h3 h4=>hih i'' (by omega) h4
    have hic:=fun h=>refcond_c v l hl (Ps.group (l.map Lx.b) (Ps.part (l.map Lx.b) (l.map Lx.b).length)) (i+1) h fun i' h1 h2=>refgroup_c v l hl (Ps.part (l.map Lx.b) (l.map Lx.b).length) i' h2 fun i'' h3 h4=>refpart_c v l hl ha (l.map Lx.b).length i'' (by rw [hlen];omega) h4
    have hch:=fun h=>refchoice_c v l hl (Ps.cond (l.map Lx.b) (Ps.part (l.map Lx.b) (l.map Lx.b).length)) (Ps.step (l.map Lx.b) n) (i+1) h (hic h) fun i' h1 h2=>hih i' (by omega) h2
    have c1:=refis29_c F v l hv hn hx Ps.wDrop
    have c2:=refis29_c F v l hv hn hx Ps.wId
    have c3:=refis29_c F v l hv hn hx Ps.wWhen
    have c4:=refis29_c F v l hv hn hx Ps.wIf
    have c5:=refis29_c F v l hv hn hx Ps.wOpen
    have ca:=refassign_c F v l hv hn hl ha hil 5 (by decide) Ps.wSet
    have n1:=fun s=>hl.next hx (s:=s)
    have hspec:Ps.step (l.map Lx.b) (n+1) i=if Ps.is (l.map Lx.b) i Ps.wDrop=true then .ok (.mk 1 (.mk 2 0 0 []) 0 0 []) (i+1)
      else if Ps.is (l.map Lx.b) i Ps.wId=true then .ok (.mk 1 (.mk 1 0 0 []) 0 0 []) (i+1)
      else if Ps.is (l.map Lx.b) i Ps.wWhen=true then match Ps.cond (l.map Lx.b) (Ps.part (l.map Lx.b) (l.map Lx.b).length) (i+1) with
        | .ok c j=>.ok (.mk 1 c 0 0 []) j
        | .bad j=>.bad j
      else if Ps.is (l.map Lx.b) i Ps.wIf=true then Ps.choice (l.map Lx.b) (Ps.cond (l.map Lx.b) (Ps.part (l.map Lx.b) (l.map Lx.b).length)) (Ps.step (l.map Lx.b) n) (i+1)
      else if Ps.is (l.map Lx.b) i Ps.wOpen=true then Ps.shut (l.map Lx.b) (Ps.rows (l.map Lx.b) (Ps.step (l.map Lx.b) n) (i+1))
      else match Ps.assign (l.map Lx.b) 5 Ps.wSet i with
        | .ok (f,v) j=>.ok (.mk 2 Ps.none26 f v []) j
        | .bad j=>.bad j:=by
      rw [Ps.step]
      split
      · rfl
      split
      · rfl
      split
      · cases Ps.cond (l.map Lx.b) (Ps.part (l.map Lx.b) (l.map Lx.b).length) (i+1)<;>rfl
      split
      · rfl
      split
      · rfl
      · rcases Ps.assign (l.map Lx.b) 5 Ps.wSet i with ⟨⟨f,v⟩,j⟩ | j<;>rfl
    have m1:=n1 Ps.wDrop
    have m2:=n1 Ps.wId
    have m3:=n1 Ps.wWhen
    have m4:=n1 Ps.wIf
    have m5:=n1 Ps.wOpen
    generalize Ps.step (l.map Lx.b) (n+1) i=res at *
    generalize Ps.is (l.map Lx.b) i Ps.wDrop=q1 at *
    generalize Ps.is (l.map Lx.b) i Ps.wId=q2 at *
    generalize Ps.is (l.map Lx.b) i Ps.wWhen=q3 at *
    generalize Ps.is (l.map Lx.b) i Ps.wIf=q4 at *
    generalize Ps.is (l.map Lx.b) i Ps.wOpen=q5 at *
    generalize Ps.assign (l.map Lx.b) 5 Ps.wSet i=qa at *
    unfold Ps.wDrop at c1
    unfold Ps.wId at c2
    unfold Ps.wWhen at c3
    unfold Ps.wIf at c4
    unfold Ps.wOpen at c5
    unfold Ps.wSet at ca
    refine ncall_of Tryd.func87 rfl (by decide) ?_
    cases q1 with
    | true =>
      rw [if_pos rfl] at hspec
      (repeat' (first|(with_reducible first|(refine hK _ _ ?_;clear hK K)|(refine hA ?_;clear hA hB A B)|(refine hK _ ?_;clear hK K))|((with_reducible refine z25 ?_);intro K hK;(conv=>whnf))|(with_reducible refine z0 ?_)|((first|((with_reducible refine NV.i64 ?s ?_);case s=>omega)|((with_reducible refine NIf.yes ?s ?_);case s=>rfl)|((with_reducible refine NH.mk ?s ?_);case s=>(and_intros<;>first|with_reducible rfl|((with_reducible refine gOnes ?_);rfl)|((with_reducible refine gLen ?_);rfl)))|((with_reducible refine NCall.isF 66 ?_);refine NCall.subE [0] (c1) rfl (by decide) rfl rfl ?_))<;>(conv=>whnf))|(with_reducible first|refine z3 ?_|refine z4 ?_|refine z8 ?_)|((with_reducible refine z29 ?_);intro A B hA hB;(conv=>whnf))|(with_reducible first|refine z1 ?_|refine z2 ?_|refine z12 ?_)|((with_reducible refine gR ?_);(refine z31 rfl ?_;intro K hK;(conv=>whnf)))|((with_reducible refine gF ?_);(refine z33 rfl ?_;intro K hK;(conv=>whnf)))|((intro _;skip)<;>(conv=>whnf))))
      all_goals exact ⟨.mk 1 (.mk 2 0 0 []) 0 0 [],i+1,F,.slice none 0 0,.slice none 0 0,true,F.le_refl,by omega,m1 rfl,hspec,rfl,⟨RowF.nil,RowF.nil⟩,MemFits.pre 1 rfl⟩
    | false =>
    rw [if_neg (by decide)] at hspec
    cases q2 with
    | true =>
      rw [if_pos rfl] at hspec
      (repeat' (first|(with_reducible first|(refine hK _ _ ?_;clear hK K)|(refine hA ?_;clear hA hB A B)|(refine hB ?_;clear hA hB A B)|(refine hK _ ?_;clear hK K))|((with_reducible refine z25 ?_);intro K hK;(conv=>whnf))|(with_reducible refine z0 ?_)|((first|((with_reducible refine NV.i64 ?s ?_);case s=>omega)|((with_reducible refine NIf.yes ?s ?_);case s=>rfl)|((with_reducible refine NIf.no ?s ?_);case s=>rfl)|((with_reducible refine NH.mk ?s ?_);case s=>(and_intros<;>first|with_reducible rfl|((with_reducible refine gOnes ?_);rfl)|((with_reducible refine gLen ?_);rfl)))|((with_reducible refine NCall.isF 66 ?_);refine NCall.subE [0] (c1) rfl (by decide) rfl rfl ?_)|((with_reducible refine NCall.isF 66 ?_);refine NCall.subE [0] (c2) rfl (by decide) rfl rfl ?_))<;>(conv=>whnf))|(with_reducible first|refine z3 ?_|refine z4 ?_|refine z6 ?_|refine z8 ?_)|((with_reducible refine z29 ?_);intro A B hA hB;(conv=>whnf))|(with_reducible first|refine z1 ?_|refine z2 ?_|refine z12 ?_)|((with_reducible refine gR ?_);(refine z31 rfl ?_;intro K hK;(conv=>whnf)))|((with_reducible refine gF ?_);(refine z33 rfl ?_;intro K hK;(conv=>whnf)))|((intro _;skip)<;>(conv=>whnf))))
      all_goals exact ⟨.mk 1 (.mk 1 0 0 []) 0 0 [],i+1,F,.slice none 0 0,.slice none 0 0,true,F.le_refl,by omega,m2 rfl,hspec,rfl,⟨RowF.nil,RowF.nil⟩,MemFits.pre 1 rfl⟩
    | false =>
    rw [if_neg (by decide)] at hspec
    cases q3 with
    | true =>
      rw [if_pos rfl] at hspec
      have cp:=hic (m3 rfl) F hv
      have e:Ps.wrap (fun xs=>Pd.T.mk 6 0 0 xs) (Ps.chain (l.map Lx.b) Ps.wOr (Ps.group (l.map Lx.b) (Ps.part (l.map Lx.b) (l.map Lx.b).length)) (i+1))=Ps.cond (l.map Lx.b) (Ps.part (l.map Lx.b) (l.map Lx.b).length) (i+1):=rfl
      rw [e] at cp
      unfold Ps.Out26 at cp
      generalize Ps.cond (l.map Lx.b) (Ps.part (l.map Lx.b) (l.map Lx.b).length) (i+1)=qc at *
      (repeat' (first|(with_reducible first|(refine hK _ _ ?_;clear hK K)|(refine hA ?_;clear hA hB A B)|(refine hB ?_;clear hA hB A B)|(refine hK _ ?_;clear hK K))|((with_reducible refine z25 ?_);intro K hK;(conv=>whnf))|(with_reducible refine z0 ?_)|((first|((with_reducible refine NV.i64 ?s ?_);case s=>omega)|((with_reducible refine NIf.yes ?s ?_);case s=>rfl)|((with_reducible refine NIf.no ?s ?_);case s=>rfl)|((with_reducible refine NH.mk ?s ?_);case s=>(and_intros<;>first|with_reducible rfl|((with_reducible refine gOnes ?_);rfl)|((with_reducible refine gLen ?_);rfl)))|((with_reducible refine NCall.isF 66 ?_);refine NCall.subE [0] (c1) rfl (by decide) rfl rfl ?_)|((with_reducible refine NCall.isF 66 ?_);refine NCall.subE [0] (c2) rfl (by decide) rfl rfl ?_)|((with_reducible refine NCall.isF 66 ?_);refine NCall.subE [0] (c3) rfl (by decide) rfl rfl ?_)|((with_reducible refine NCall.isF 33 ?_);refine NCall.subw [0] _ _ (cp) rfl (by decide) rfl ?_;rintro _ _ ⟨x,u,j,G,ok,h1,h2,h3,h4,h5,rfl,rfl⟩;refine ⟨Nat.le_of_ble_eq_true rfl,_,rfl,?_⟩))<;>(conv=>whnf))|(with_reducible first|refine z3 ?_|refine z4 ?_|refine z6 ?_|refine z8 ?_)|((with_reducible refine z29 ?_);intro A B hA hB;(conv=>whnf))|(with_reducible first|refine z1 ?_|refine z2 ?_|refine z12 ?_)|((with_reducible refine gR ?_);(refine z31 rfl ?_;intro K hK;(conv=>whnf)))|((with_reducible refine gF ?_);(refine z33 rfl ?_;intro K hK;(conv=>whnf)))|((intro _;skip)<;>(conv=>whnf))))
      all_goals exact ⟨.mk 1 x 0 0 [],j,G,u,.slice none 0 0,ok,h1,by omega,h4,by rw [hspec,h5];cases ok<;>rfl,rfl,⟨h2,RowF.nil⟩,MemFits.pre 1 rfl⟩
    | false =>
    rw [if_neg (by decide)] at hspec
    cases q4 with
    | true =>
      rw [if_pos rfl] at hspec
      have cp:=hch (m4 rfl) F hv
      unfold Ps.Out27 at cp
      generalize Ps.choice (l.map Lx.b) (Ps.cond (l.map Lx.b) (Ps.part (l.map Lx.b) (l.map Lx.b).length)) (Ps.step (l.map Lx.b) n) (i+1)=qc at *
      (repeat' (first|(with_reducible first|(refine hK _ _ ?_;clear hK K)|(refine hA ?_;clear hA hB A B)|(refine hB ?_;clear hA hB A B)|(refine hK _ ?_;clear hK K))|((with_reducible refine z25 ?_);intro K hK;(conv=>whnf))|(with_reducible refine z0 ?_)|((first|((with_reducible refine NV.i64 ?s ?_);case s=>omega)|((with_reducible refine NIf.yes ?s ?_);case s=>rfl)|((with_reducible refine NIf.no ?s ?_);case s=>rfl)|((with_reducible refine NH.mk ?s ?_);case s=>(and_intros<;>first|with_reducible rfl|((with_reducible refine gOnes ?_);rfl)|((with_reducible refine gLen ?_);rfl)))|((with_reducible refine NCall.isF 66 ?_);refine NCall.subE [0] (c1) rfl (by decide) rfl rfl ?_)|((with_reducible refine NCall.isF 66 ?_);refine NCall.subE [0] (c2) rfl (by decide) rfl rfl ?_)|((with_reducible refine NCall.isF 66 ?_);refine NCall.subE [0] (c3) rfl (by decide) rfl rfl ?_)|((with_reducible refine NCall.isF 66 ?_);refine NCall.subE [0] (c4) rfl (by decide) rfl rfl ?_)|((with_reducible refine NCall.isF 109 ?_);refine NCall.subw [0] _ _ (cp) rfl (by decide) rfl ?_;rintro _ _ ⟨x,pu,u,j,G,ok,h1,h2,h3,h4,h5,rfl,rfl⟩;refine ⟨Nat.le_of_ble_eq_true rfl,_,rfl,?_⟩))<;>(conv=>whnf))|(with_reducible first|refine z3 ?_|refine z4 ?_|refine z6 ?_|refine z8 ?_)|((with_reducible refine z29 ?_);intro A B hA hB;(conv=>whnf))|(with_reducible first|refine z1 ?_|refine z2 ?_|refine z12 ?_)|((with_reducible refine gR ?_);(refine z31 rfl ?_;intro K hK;(conv=>whnf)))|((with_reducible refine gF ?_);(refine z33 rfl ?_;intro K hK;(conv=>whnf)))|((intro _;skip)<;>(conv=>whnf))))
      all_goals exact ⟨x,j,G,pu,u,ok,h1,by omega,h4,by rw [hspec,h5],rfl,h2,MemFits.pre 1 rfl⟩
    | false =>
    rw [if_neg (by decide)] at hspec
    cases q5 with
    | true =>
      rw [if_pos rfl] at hspec
      have cp:=hip (m5 rfl) F hv
      have ct:=fun G (h:F.le G) j (hj:j<l.length)=>refis29_c G v l (Ps.Toks.mono h hv) hn (List.getElem?_eq_getElem hj) Ps.wShut
      have nt:=fun j (hj:j<l.length)=>hl.next (List.getElem?_eq_getElem hj) (s:=Ps.wShut)
      have e:Ps.wrap (fun xs=>Po.T.mk 4 Ps.none26 0 0 xs) (Ps.chain (l.map Lx.b) Ps.wBar (Ps.row (l.map Lx.b) (Ps.step (l.map Lx.b) n)) (i+1))=Ps.rows (l.map Lx.b) (Ps.step (l.map Lx.b) n) (i+1):=rfl
      rw [e] at cp
      generalize Ps.rows (l.map Lx.b) (Ps.step (l.map Lx.b) n) (i+1)=qc at *
      rcases qc with ⟨y,k⟩ | k
      · have cp:=cp.mono fun r m h=>Ps.Out27.ok rfl h
        have ctk:=fun G (h:F.le G) (hj:k<l.length)=>ct G h k hj
        have ntk:=nt k
        have hsh:Ps.shut (l.map Lx.b) (.ok y k)=if Ps.is (l.map Lx.b) k Ps.wShut=true then .ok y (k+1) else .bad k:=rfl
        rw [hsh] at hspec
        generalize Ps.is (l.map Lx.b) k Ps.wShut=q6 at *
        unfold Ps.wShut at ctk
        cases q6 with
        | true =>
          (repeat' (first|(with_reducible first|(refine hK _ _ ?_;clear hK K)|(refine hA ?_;clear hA hB A B)|(refine hB ?_;clear hA hB A B)|(refine hK _ ?_;clear hK K))|((with_reducible first|refine z25 ?_|refine z26 ?_);intro K hK;(conv=>whnf))|(with_reducible refine z0 ?_)|((first|((with_reducible refine NV.i64 ?s ?_);case s=>omega)|with_reducible refine NIf.not_ ?_|((with_reducible refine NIf.yes ?s ?_);case s=>rfl)|((with_reducible refine NIf.no ?s ?_);case s=>rfl)|((with_reducible refine NH.mk ?s ?_);case s=>(and_intros<;>first|with_reducible rfl|((with_reducible refine gOnes ?_);rfl)|((with_reducible refine gLen ?_);rfl)))|((with_reducible refine NCall.isF 66 ?_);refine NCall.subE [0] (c1) rfl (by decide) rfl rfl ?_)|((with_reducible refine NCall.isF 66 ?_);refine NCall.subE [0] (c2) rfl (by decide) rfl rfl ?_)|((with_reducible refine NCall.isF 66 ?_);refine NCall.subE [0] (c3) rfl (by decide) rfl rfl ?_)|((with_reducible refine NCall.isF 66 ?_);refine NCall.subE [0] (c4) rfl (by decide) rfl rfl ?_)|((with_reducible refine NCall.isF 66 ?_);refine NCall.subE [0] (c5) rfl (by decide) rfl rfl ?_)|((with_reducible refine NCall.isF 29 ?_);refine NCall.subw [0] _ _ (cp) rfl (by decide) rfl ?_;rintro _ _ ⟨pu,u,G,h1,h2,h3,h4,rfl,rfl⟩;refine ⟨Nat.le_of_ble_eq_true rfl,_,rfl,?_⟩)|((with_reducible refine NCall.isF 66 ?_);refine NCall.subE [0] (ctk G h1 h4) rfl (by decide) rfl rfl ?_))<;>(conv=>whnf))|(with_reducible first|refine z3 ?_|refine z4 ?_|refine z6 ?_|refine z8 ?_)|((with_reducible refine z29 ?_);intro A B hA hB;(conv=>whnf))|(with_reducible first|refine z1 ?_|refine z2 ?_|refine z12 ?_)|((with_reducible refine gR ?_);(refine z31 rfl ?_;intro K hK;(conv=>whnf)))|((with_reducible refine gF ?_);(refine z33 rfl ?_;intro K hK;(conv=>whnf)))|((intro _;skip)<;>(conv=>whnf))))
          all_goals exact ⟨y,k+1,G,pu,u,true,h1,by omega,ntk h4 rfl,hspec,rfl,h2,MemFits.pre 1 rfl⟩
        | false =>
          (repeat' (first|(with_reducible first|(refine hK _ _ ?_;clear hK K)|(refine hA ?_;clear hA hB A B)|(refine hB ?_;clear hA hB A B)|(refine hK _ ?_;clear hK K))|((with_reducible first|refine z25 ?_|refine z26 ?_);intro K hK;(conv=>whnf))|(with_reducible refine z0 ?_)|((first|((with_reducible refine NV.i64 ?s ?_);case s=>omega)|with_reducible refine NIf.not_ ?_|((with_reducible refine NIf.yes ?s ?_);case s=>rfl)|((with_reducible refine NIf.no ?s ?_);case s=>rfl)|((with_reducible refine NH.mk ?s ?_);case s=>(and_intros<;>first|with_reducible rfl|((with_reducible refine gOnes ?_);rfl)|((with_reducible refine gLen ?_);rfl)))|((with_reducible refine NCall.isF 66 ?_);refine NCall.subE [0] (c1) rfl (by decide) rfl rfl ?_)|((with_reducible refine NCall.isF 66 ?_);refine NCall.subE [0] (c2) rfl (by decide) rfl rfl ?_)|((with_reducible refine NCall.isF 66 ?_);refine NCall.subE [0] (c3) rfl (by decide) rfl rfl ?_)|((with_reducible refine NCall.isF 66 ?_);refine NCall.subE [0] (c4) rfl (by decide) rfl rfl ?_)|((with_reducible refine NCall.isF 66 ?_);refine NCall.subE [0] (c5) rfl (by decide) rfl rfl ?_)|((with_reducible refine NCall.isF 29 ?_);refine NCall.subw [0] _ _ (cp) rfl (by decide) rfl ?_;rintro _ _ ⟨pu,u,G,h1,h2,h3,h4,rfl,rfl⟩;refine ⟨Nat.le_of_ble_eq_true rfl,_,rfl,?_⟩)|((with_reducible refine NCall.isF 66 ?_);refine NCall.subE [0] (ctk G h1 h4) rfl (by decide) rfl rfl ?_))<;>(conv=>whnf))|(with_reducible first|refine z3 ?_|refine z4 ?_|refine z6 ?_|refine z8 ?_)|((with_reducible refine z29 ?_);intro A B hA hB;(conv=>whnf))|(with_reducible first|refine z1 ?_|refine z2 ?_|refine z12 ?_)|((with_reducible refine gR ?_);(refine z31 rfl ?_;intro K hK;(conv=>whnf)))|((with_reducible refine gF ?_);(refine z33 rfl ?_;intro K hK;(conv=>whnf)))|((intro _;skip)<;>(conv=>whnf))))
          all_goals exact ⟨y,k,G,pu,u,false,h1,by omega,h4,hspec,rfl,h2,MemFits.pre 1 rfl⟩
      · have cp:=cp.mono fun r m h=>Ps.Out27.no rfl h
        (repeat' (first|(with_reducible first|(refine hK _ _ ?_;clear hK K)|(refine hA ?_;clear hA hB A B)|(refine hB ?_;clear hA hB A B)|(refine hK _ ?_;clear hK K))|((with_reducible first|refine z25 ?_|refine z26 ?_);intro K hK;(conv=>whnf))|(with_reducible refine z0 ?_)|((first|((with_reducible refine NV.i64 ?s ?_);case s=>omega)|with_reducible refine NIf.not_ ?_|((with_reducible refine NIf.yes ?s ?_);case s=>rfl)|((with_reducible refine NIf.no ?s ?_);case s=>rfl)|((with_reducible refine NH.mk ?s ?_);case s=>(and_intros<;>first|with_reducible rfl|((with_reducible refine gOnes ?_);rfl)|((with_reducible refine gLen ?_);rfl)))|((with_reducible refine NCall.isF 66 ?_);refine NCall.subE [0] (c1) rfl (by decide) rfl rfl ?_)|((with_reducible refine NCall.isF 66 ?_);refine NCall.subE [0] (c2) rfl (by decide) rfl rfl ?_)|((with_reducible refine NCall.isF 66 ?_);refine NCall.subE [0] (c3) rfl (by decide) rfl rfl ?_)|((with_reducible refine NCall.isF 66 ?_);refine NCall.subE [0] (c4) rfl (by decide) rfl rfl ?_)|((with_reducible refine NCall.isF 66 ?_);refine NCall.subE [0] (c5) rfl (by decide) rfl rfl ?_)|((with_reducible refine NCall.isF 29 ?_);refine NCall.subw [0] _ _ (cp) rfl (by decide) rfl ?_;rintro _ _ ⟨y,pu,u,G,h1,h2,h3,h4,rfl,rfl⟩;refine ⟨Nat.le_of_ble_eq_true rfl,_,rfl,?_⟩))<;>(conv=>whnf))|(with_reducible first|refine z3 ?_|refine z4 ?_|refine z6 ?_|refine z8 ?_)|((with_reducible refine z29 ?_);intro A B hA hB;(conv=>whnf))|(with_reducible first|refine z1 ?_|refine z2 ?_|refine z12 ?_)|((with_reducible refine gR ?_);(refine z31 rfl ?_;intro K hK;(conv=>whnf)))|((with_reducible refine gF ?_);(refine z33 rfl ?_;intro K hK;(conv=>whnf)))|((intro _;skip)<;>(conv=>whnf))))
        all_goals exact ⟨y,k,G,pu,u,false,h1,by omega,h4,hspec,rfl,h2,MemFits.pre 1 rfl⟩
    | false =>
    rw [if_neg (by decide)] at hspec
    (repeat' (first|(with_reducible first|(refine hK _ _ ?_;clear hK K)|(refine hB ?_;clear hA hB A B)|(refine hK _ ?_;clear hK K))|((with_reducible refine z25 ?_);intro K hK;(conv=>whnf))|(with_reducible refine z0 ?_)|((first|((with_reducible refine NIf.no ?s ?_);case s=>rfl)|((with_reducible refine NH.mk ?s ?_);case s=>(and_intros<;>first|with_reducible rfl|((with_reducible refine gOnes ?_);rfl)|((with_reducible refine gLen ?_);rfl)))|((with_reducible refine NCall.isF 66 ?_);refine NCall.subE [0] (c1) rfl (by decide) rfl rfl ?_)|((with_reducible refine NCall.isF 66 ?_);refine NCall.subE [0] (c2) rfl (by decide) rfl rfl ?_)|((with_reducible refine NCall.isF 66 ?_);refine NCall.subE [0] (c3) rfl (by decide) rfl rfl ?_)|((with_reducible refine NCall.isF 66 ?_);refine NCall.subE [0] (c4) rfl (by decide) rfl rfl ?_)|((with_reducible refine NCall.isF 66 ?_);refine NCall.subE [0] (c5) rfl (by decide) rfl rfl ?_)|((with_reducible refine NCall.isF 110 ?_);refine NCall.subw [0] _ _ (ca) rfl (by decide) rfl ?_;rintro _ _ ⟨f,w,j,ok,h1,h2,h3,rfl,rfl⟩;refine ⟨Nat.le_of_ble_eq_true rfl,_,rfl,?_⟩))<;>(conv=>whnf))|(with_reducible first|refine z3 ?_|refine z4 ?_|refine z6 ?_|refine z8 ?_)|((with_reducible refine z29 ?_);intro A B hA hB;(conv=>whnf))|(with_reducible first|refine z1 ?_|refine z2 ?_)|((with_reducible refine gR ?_);(refine z31 rfl ?_;intro K hK;(conv=>whnf)))|((with_reducible refine gF ?_);(refine z33 rfl ?_;intro K hK;(conv=>whnf)))|((intro _;skip)<;>(conv=>whnf))))
    all_goals exact ⟨.mk 2 Ps.none26 f w [],j,F,.slice none 0 0,.slice none 0 0,ok,F.le_refl,h1,h2,by rw [hspec,h3];cases ok<;>rfl,rfl,⟨RowF.nil,RowF.nil⟩,MemFits.pre 1 rfl⟩
end Go.Proofs.YtaojbkphcnailaaDoor
