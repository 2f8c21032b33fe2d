import Derived.Test.YtaojbkphcnailaaDoorJ18
import Derived.Test.YtaojbkphcnailaaDoorJ12
import Derived.Test.YtaojbkphcnailaaDoorSxC
namespace Go.Proofs.YtaojbkphcnailaaDoor
open Go.Sx
set_option maxRecDepth 20000
set_option linter.unusedSimpArgs false
set_option linter.unusedVariables false
set_option maxHeartbeats 4000000
set_option linter.unusedVariables false
theorem refpart_c (v:Value) (l:List Lx.T) (hl:Ps.Good l) (ha:Ps.Apart l):∀ (n i:Nat),l.length - i≤n→i<l.length→Ps.D26 v l 89 (Ps.part (l.map Lx.b) n i) i
  | 0,i,h0,h1=>by omega
  | n+1,i,hni,hil=>by
    intro F hv
    refine NCall.know (K:=fun r m=>∃ (y:Pd.T) (j:Nat) (G:Heap) (w:Value) (ok:Bool),F.le G∧i≤j∧j<l.length∧Ps.part (l.map Lx.b) (n+1) i=(if ok=true then .ok y j else .bad j)∧r.den=(AV.tup [.agg (Pd.cs y w),.int .i64 j,.bool ok]).den∧((Pd.Row G w y.l∧MemFits m [hpB G])∨(∃ ps:List (Pd.T × Value),y.l=ps.map (·.1)∧(∀ p∈ps,Pd.Row G p.2 p.1.l)∧MemFits m [hpB G,⟨addrOf w,Pd.psC ps,.row w 34 4 ps.length⟩]))) ?_ fun r m' hq ⟨w0,hw0⟩=>?_
    rotate_left
    · obtain ⟨y,j,G,w,ok,h1,h2,h3,h4,h5,h6⟩:=hq
      rcases h6 with ⟨h6,h7⟩ | ⟨ps,e,h6,h7⟩
      · exact ⟨_,_,h5.symm,h7,y,w,j,G,ok,h1,h6,h2,h3,h4,rfl,rfl⟩
      · have hok:=((h7 w0 hw0).1.row (List.mem_cons_of_mem _ (List.mem_cons_self ..))).1
        have hrow:=rowF_new (F:=G) (sz:=4) (enc:=Pd.psV) hok (Pd.psC_den ps) (fun x _=>rfl)
        have hr:=Pd.row_of hrow fun p hp=>Pd.Row.mono addF.old (h6 p hp)
        rw [← e] at hr
        exact ⟨_,_,h5.symm,h7.trans (MemFits.freeze (m:=[])),y,w,j,_,ok,h1.trans addF.old,hr,h2,h3,h4,rfl,rfl⟩
    have hn:=hl.few
    have hx:l[i]?=some l[i]:=List.getElem?_eq_getElem hil
    have hih:∀ i',i+1≤i'→i'<l.length→Ps.D26 v l 89 (Ps.part (l.map Lx.b) n i') i':=fun i' h1 h2=>refpart_c v l hl ha n i' (by omega) h2
    have hic:=fun h=>refcond_c v l hl (Ps.group (l.map Lx.b) (Ps.part (l.map Lx.b) n)) (i+1) h fun i' h1 h2=>refgroup_c v l hl (Ps.part (l.map Lx.b) n) i' h2 fun i'' h3 h4=>hih i'' (by omega) h4
    have c1:=refis29_c F v l hv hn hx Ps.wTrue
    have c2:=refis29_c F v l hv hn hx Ps.wFalse
    have c3:=refis29_c F v l hv hn hx Ps.wNot
    have c4:=refis29_c F v l hv hn hx Ps.wOpen
    have ca:=refassign_c F v l hv hn hl ha hil 6 (by decide) Ps.wEq
    have n1:=fun s=>hl.next hx (s:=s)
    have hspec:Ps.part (l.map Lx.b) (n+1) i=if Ps.is (l.map Lx.b) i Ps.wTrue=true then .ok (.mk 1 0 0 []) (i+1)
      else if Ps.is (l.map Lx.b) i Ps.wFalse=true then .ok (.mk 2 0 0 []) (i+1)
      else if Ps.is (l.map Lx.b) i Ps.wNot=true then match Ps.part (l.map Lx.b) n (i+1) with
        | .ok x j=>.ok (.mk 4 0 0 [x]) j
        | .bad j=>.bad j
      else if Ps.is (l.map Lx.b) i Ps.wOpen=true then Ps.shut (l.map Lx.b) (Ps.cond (l.map Lx.b) (Ps.part (l.map Lx.b) n) (i+1))
      else match Ps.assign (l.map Lx.b) 6 Ps.wEq i with
        | .ok (f,v) j=>.ok (.mk 3 f v []) j
        | .bad j=>.bad j:=by
      rw [Ps.part]
      split
      · rfl
      split
      · rfl
      split
      · cases Ps.part (l.map Lx.b) n (i+1)<;>rfl
      split
      · rfl
      · rcases Ps.assign (l.map Lx.b) 6 Ps.wEq i with ⟨⟨f,v⟩,j⟩ | j<;>rfl
    have m1:=n1 Ps.wTrue
    have m2:=n1 Ps.wFalse
    have m3:=n1 Ps.wNot
    have m4:=n1 Ps.wOpen
    generalize Ps.part (l.map Lx.b) (n+1) i=res at *
    generalize Ps.is (l.map Lx.b) i Ps.wTrue=q1 at *
    generalize Ps.is (l.map Lx.b) i Ps.wFalse=q2 at *
    generalize Ps.is (l.map Lx.b) i Ps.wNot=q3 at *
    generalize Ps.is (l.map Lx.b) i Ps.wOpen=q4 at *
    generalize Ps.assign (l.map Lx.b) 6 Ps.wEq i=qa at *
    unfold Ps.wTrue at c1
    unfold Ps.wFalse at c2
    unfold Ps.wNot at c3
    unfold Ps.wOpen at c4
    unfold Ps.wEq at ca
    refine ncall_of Tryd.func89 rfl (by decide) ?_
    cases q1 with
    | true =>
      rw [if_pos rfl] at hspec
      (repeat' (first|(with_reducible first|(refine hK _ _ ?_;clear hK K)|(refine hA ?_;clear hA hB A B)|(refine hK _ ?_;clear hK K))|((with_reducible refine z25 ?_);intro K hK;(conv=>whnf))|(with_reducible refine z0 ?_)|((first|((with_reducible refine NV.i64 ?s ?_);case s=>omega)|((with_reducible refine NIf.yes ?s ?_);case s=>rfl)|((with_reducible refine NH.mk ?s ?_);case s=>(and_intros<;>first|with_reducible rfl|((with_reducible refine gOnes ?_);rfl)|((with_reducible refine gLen ?_);rfl)))|((with_reducible refine NCall.isF 66 ?_);refine NCall.subE [0] (c1) rfl (by decide) rfl rfl ?_))<;>(conv=>whnf))|(with_reducible first|refine z3 ?_|refine z4 ?_|refine z8 ?_)|((with_reducible refine z29 ?_);intro A B hA hB;(conv=>whnf))|(with_reducible first|refine z1 ?_|refine z2 ?_|refine z12 ?_)|((with_reducible refine gR ?_);(refine z31 rfl ?_;intro K hK;(conv=>whnf)))|((with_reducible refine gF ?_);(refine z33 rfl ?_;intro K hK;(conv=>whnf)))|((intro _;skip)<;>(conv=>whnf))))
      all_goals exact ⟨.mk 1 0 0 [],i+1,F,.slice none 0 0,true,F.le_refl,by omega,m1 rfl,hspec,rfl,.inl ⟨RowF.nil,MemFits.pre 1 rfl⟩⟩
    | false =>
    rw [if_neg (by decide)] at hspec
    cases q2 with
    | true =>
      rw [if_pos rfl] at hspec
      (repeat' (first|(with_reducible first|(refine hK _ _ ?_;clear hK K)|(refine hA ?_;clear hA hB A B)|(refine hB ?_;clear hA hB A B)|(refine hK _ ?_;clear hK K))|((with_reducible refine z25 ?_);intro K hK;(conv=>whnf))|(with_reducible refine z0 ?_)|((first|((with_reducible refine NV.i64 ?s ?_);case s=>omega)|((with_reducible refine NIf.yes ?s ?_);case s=>rfl)|((with_reducible refine NIf.no ?s ?_);case s=>rfl)|((with_reducible refine NH.mk ?s ?_);case s=>(and_intros<;>first|with_reducible rfl|((with_reducible refine gOnes ?_);rfl)|((with_reducible refine gLen ?_);rfl)))|((with_reducible refine NCall.isF 66 ?_);refine NCall.subE [0] (c1) rfl (by decide) rfl rfl ?_)|((with_reducible refine NCall.isF 66 ?_);refine NCall.subE [0] (c2) rfl (by decide) rfl rfl ?_))<;>(conv=>whnf))|(with_reducible first|refine z3 ?_|refine z4 ?_|refine z6 ?_|refine z8 ?_)|((with_reducible refine z29 ?_);intro A B hA hB;(conv=>whnf))|(with_reducible first|refine z1 ?_|refine z2 ?_|refine z12 ?_)|((with_reducible refine gR ?_);(refine z31 rfl ?_;intro K hK;(conv=>whnf)))|((with_reducible refine gF ?_);(refine z33 rfl ?_;intro K hK;(conv=>whnf)))|((intro _;skip)<;>(conv=>whnf))))
      all_goals exact ⟨.mk 2 0 0 [],i+1,F,.slice none 0 0,true,F.le_refl,by omega,m2 rfl,hspec,rfl,.inl ⟨RowF.nil,MemFits.pre 1 rfl⟩⟩
    | false =>
    rw [if_neg (by decide)] at hspec
    cases q3 with
    | true =>
      rw [if_pos rfl] at hspec
      have cp:=hih (i+1) (Nat.le_refl _) (m3 rfl) F hv
      (repeat' (first|(with_reducible first|(refine hK _ _ ?_;clear hK K)|(refine hA ?_;clear hA hB A B)|(refine hB ?_;clear hA hB A B)|(refine hK _ ?_;clear hK K))|((with_reducible refine z25 ?_);intro K hK;(conv=>whnf))|(with_reducible refine z0 ?_)|((first|((with_reducible refine NV.i64 ?s ?_);case s=>omega)|((with_reducible refine NIf.yes ?s ?_);case s=>rfl)|((with_reducible refine NIf.no ?s ?_);case s=>rfl)|((with_reducible refine NH.mk ?s ?_);case s=>(and_intros<;>first|with_reducible rfl|((with_reducible refine gOnes ?_);rfl)|((with_reducible refine gLen ?_);rfl)|omega))|((with_reducible refine NCall.isF 66 ?_);refine NCall.subE [0] (c1) rfl (by decide) rfl rfl ?_)|((with_reducible refine NCall.isF 66 ?_);refine NCall.subE [0] (c2) rfl (by decide) rfl rfl ?_)|((with_reducible refine NCall.isF 66 ?_);refine NCall.subE [0] (c3) rfl (by decide) rfl rfl ?_)|((with_reducible refine NCall.isF 89 ?_);refine NCall.subw [0] _ _ (cp) rfl (by decide) rfl ?_;rintro _ _ ⟨x,u,j,G,ok,h1,h2,h3,h4,h5,rfl,rfl⟩;refine ⟨Nat.le_of_ble_eq_true rfl,_,rfl,?_⟩))<;>(conv=>whnf))|(with_reducible first|refine z3 ?_|refine z4 ?_|refine z6 ?_|refine z8 ?_)|((with_reducible refine z29 ?_);intro A B hA hB;(conv=>whnf))|(with_reducible first|refine z1 ?_|refine z2 ?_|refine z12 ?_)|((with_reducible refine gR ?_);(refine z31 rfl ?_;intro K hK;(conv=>whnf)))|((with_reducible refine gF ?_);(refine z33 rfl ?_;intro K hK;(conv=>whnf)))|((intro _;skip)<;>(conv=>whnf))))
      rename_i b2
      exact ⟨.mk 4 0 0 [x],j,G,.slice (some ⟨b2,0,none⟩) 1 1,ok,h1,by omega,h4,by rw [hspec,h5];cases ok<;>rfl,rfl,.inr ⟨[(x,u)],rfl,fun p hp=>by rw [List.mem_singleton.1 hp];exact h2,MemFits.pick [0,3] (by decide) rfl⟩⟩
    | false =>
    rw [if_neg (by decide)] at hspec
    cases q4 with
    | true =>
      rw [if_pos rfl] at hspec
      have cp:=hic (m4 rfl) F hv
      have ct:=fun G (h:F.le G) j (hj:j<l.length)=>refis29_c G v l (Ps.Toks.mono h hv) hn (List.getElem?_eq_getElem hj) Ps.wShut
      have nt:=fun j (hj:j<l.length)=>hl.next (List.getElem?_eq_getElem hj) (s:=Ps.wShut)
      have e:Ps.cond (l.map Lx.b) (Ps.part (l.map Lx.b) n) (i+1)=Ps.wrap (fun xs=>Pd.T.mk 6 0 0 xs) (Ps.chain (l.map Lx.b) Ps.wOr (Ps.group (l.map Lx.b) (Ps.part (l.map Lx.b) n)) (i+1)):=rfl
      rw [e] at hspec
      generalize Ps.wrap (fun xs=>Pd.T.mk 6 0 0 xs) (Ps.chain (l.map Lx.b) Ps.wOr (Ps.group (l.map Lx.b) (Ps.part (l.map Lx.b) n)) (i+1))=qc at *
      rcases qc with ⟨y,k⟩ | k
      · have cp:NCall Tryd.prog 33 [.hs v l.length,.int .i64 (i+1:Nat)] [hpB F] fun r m=>∃ u G,F.le G∧Pd.Row G u y.l∧i+1≤k∧k<l.length∧r = .tup [.agg (Pd.cs y u),.int .i64 k,.bool true]∧m=[hpB G]:=cp.mono fun r m h=>by
          obtain ⟨x,u,j,G,ok,h1,h2,h3,h4,h5,h6,h7⟩:=h
          cases ok with
          | false=>cases h5
          | true=>cases h5;exact ⟨u,G,h1,h2,h3,h4,h6,h7⟩
        have ctk:=fun G (h:F.le G) (hj:k<l.length)=>ct G h k hj
        have ntk:=nt k
        have hsh:Ps.shut (l.map Lx.b) (.ok y k)=if Ps.is (l.map Lx.b) k Ps.wShut=true then .ok y (k+1) else .bad k:=rfl
        rw [hsh] at hspec
        generalize Ps.is (l.map Lx.b) k Ps.wShut=q5 at *
        unfold Ps.wShut at ctk
        cases q5 with
        | true =>
          (repeat' (first|(with_reducible first|(refine hK _ _ ?_;clear hK K)|(refine hA ?_;clear hA hB A B)|(refine hB ?_;clear hA hB A B)|(refine hK _ ?_;clear hK K))|((with_reducible first|refine z25 ?_|refine z26 ?_);intro K hK;(conv=>whnf))|(with_reducible refine z0 ?_)|((first|((with_reducible refine NV.i64 ?s ?_);case s=>omega)|with_reducible refine NIf.not_ ?_|((with_reducible refine NIf.yes ?s ?_);case s=>rfl)|((with_reducible refine NIf.no ?s ?_);case s=>rfl)|((with_reducible refine NH.mk ?s ?_);case s=>(and_intros<;>first|with_reducible rfl|((with_reducible refine gOnes ?_);rfl)|((with_reducible refine gLen ?_);rfl)))|((with_reducible refine NCall.isF 66 ?_);refine NCall.subE [0] (c1) rfl (by decide) rfl rfl ?_)|((with_reducible refine NCall.isF 66 ?_);refine NCall.subE [0] (c2) rfl (by decide) rfl rfl ?_)|((with_reducible refine NCall.isF 66 ?_);refine NCall.subE [0] (c3) rfl (by decide) rfl rfl ?_)|((with_reducible refine NCall.isF 66 ?_);refine NCall.subE [0] (c4) rfl (by decide) rfl rfl ?_)|((with_reducible refine NCall.isF 33 ?_);refine NCall.subw [0] _ _ (cp) rfl (by decide) rfl ?_;rintro _ _ ⟨u,G,h1,h2,h3,h4,rfl,rfl⟩;refine ⟨Nat.le_of_ble_eq_true rfl,_,rfl,?_⟩)|((with_reducible refine NCall.isF 66 ?_);refine NCall.subE [0] (ctk G h1 h4) rfl (by decide) rfl rfl ?_))<;>(conv=>whnf))|(with_reducible first|refine z3 ?_|refine z4 ?_|refine z6 ?_|refine z8 ?_)|((with_reducible refine z29 ?_);intro A B hA hB;(conv=>whnf))|(with_reducible first|refine z1 ?_|refine z2 ?_|refine z12 ?_)|((with_reducible refine gR ?_);(refine z31 rfl ?_;intro K hK;(conv=>whnf)))|((with_reducible refine gF ?_);(refine z33 rfl ?_;intro K hK;(conv=>whnf)))|((intro _;skip)<;>(conv=>whnf))))
          all_goals exact ⟨y,k+1,G,u,true,h1,by omega,ntk h4 rfl,hspec,rfl,.inl ⟨h2,MemFits.pre 1 rfl⟩⟩
        | false =>
          (repeat' (first|(with_reducible first|(refine hK _ _ ?_;clear hK K)|(refine hA ?_;clear hA hB A B)|(refine hB ?_;clear hA hB A B)|(refine hK _ ?_;clear hK K))|((with_reducible first|refine z25 ?_|refine z26 ?_);intro K hK;(conv=>whnf))|(with_reducible refine z0 ?_)|((first|((with_reducible refine NV.i64 ?s ?_);case s=>omega)|with_reducible refine NIf.not_ ?_|((with_reducible refine NIf.yes ?s ?_);case s=>rfl)|((with_reducible refine NIf.no ?s ?_);case s=>rfl)|((with_reducible refine NH.mk ?s ?_);case s=>(and_intros<;>first|with_reducible rfl|((with_reducible refine gOnes ?_);rfl)|((with_reducible refine gLen ?_);rfl)))|((with_reducible refine NCall.isF 66 ?_);refine NCall.subE [0] (c1) rfl (by decide) rfl rfl ?_)|((with_reducible refine NCall.isF 66 ?_);refine NCall.subE [0] (c2) rfl (by decide) rfl rfl ?_)|((with_reducible refine NCall.isF 66 ?_);refine NCall.subE [0] (c3) rfl (by decide) rfl rfl ?_)|((with_reducible refine NCall.isF 66 ?_);refine NCall.subE [0] (c4) rfl (by decide) rfl rfl ?_)|((with_reducible refine NCall.isF 33 ?_);refine NCall.subw [0] _ _ (cp) rfl (by decide) rfl ?_;rintro _ _ ⟨u,G,h1,h2,h3,h4,rfl,rfl⟩;refine ⟨Nat.le_of_ble_eq_true rfl,_,rfl,?_⟩)|((with_reducible refine NCall.isF 66 ?_);refine NCall.subE [0] (ctk G h1 h4) rfl (by decide) rfl rfl ?_))<;>(conv=>whnf))|(with_reducible first|refine z3 ?_|refine z4 ?_|refine z6 ?_|refine z8 ?_)|((with_reducible refine z29 ?_);intro A B hA hB;(conv=>whnf))|(with_reducible first|refine z1 ?_|refine z2 ?_|refine z12 ?_)|((with_reducible refine gR ?_);(refine z31 rfl ?_;intro K hK;(conv=>whnf)))|((with_reducible refine gF ?_);(refine z33 rfl ?_;intro K hK;(conv=>whnf)))|((intro _;skip)<;>(conv=>whnf))))
          all_goals exact ⟨y,k,G,u,false,h1,by omega,h4,hspec,rfl,.inl ⟨h2,MemFits.pre 1 rfl⟩⟩
      · have cp:NCall Tryd.prog 33 [.hs v l.length,.int .i64 (i+1:Nat)] [hpB F] fun r m=>∃ y u G,F.le G∧Pd.Row G u y.l∧i+1≤k∧k<l.length∧r = .tup [.agg (Pd.cs y u),.int .i64 k,.bool false]∧m=[hpB G]:=cp.mono fun r m h=>by
          obtain ⟨x,u,j,G,ok,h1,h2,h3,h4,h5,h6,h7⟩:=h
          cases ok with
          | true=>cases h5
          | false=>cases h5;exact ⟨x,u,G,h1,h2,h3,h4,h6,h7⟩
        (repeat' (first|(with_reducible first|(refine hK _ _ ?_;clear hK K)|(refine hA ?_;clear hA hB A B)|(refine hB ?_;clear hA hB A B)|(refine hK _ ?_;clear hK K))|((with_reducible first|refine z25 ?_|refine z26 ?_);intro K hK;(conv=>whnf))|(with_reducible refine z0 ?_)|((first|((with_reducible refine NV.i64 ?s ?_);case s=>omega)|with_reducible refine NIf.not_ ?_|((with_reducible refine NIf.yes ?s ?_);case s=>rfl)|((with_reducible refine NIf.no ?s ?_);case s=>rfl)|((with_reducible refine NH.mk ?s ?_);case s=>(and_intros<;>first|with_reducible rfl|((with_reducible refine gOnes ?_);rfl)|((with_reducible refine gLen ?_);rfl)))|((with_reducible refine NCall.isF 66 ?_);refine NCall.subE [0] (c1) rfl (by decide) rfl rfl ?_)|((with_reducible refine NCall.isF 66 ?_);refine NCall.subE [0] (c2) rfl (by decide) rfl rfl ?_)|((with_reducible refine NCall.isF 66 ?_);refine NCall.subE [0] (c3) rfl (by decide) rfl rfl ?_)|((with_reducible refine NCall.isF 66 ?_);refine NCall.subE [0] (c4) rfl (by decide) rfl rfl ?_)|((with_reducible refine NCall.isF 33 ?_);refine NCall.subw [0] _ _ (cp) rfl (by decide) rfl ?_;rintro _ _ ⟨y,u,G,h1,h2,h3,h4,rfl,rfl⟩;refine ⟨Nat.le_of_ble_eq_true rfl,_,rfl,?_⟩))<;>(conv=>whnf))|(with_reducible first|refine z3 ?_|refine z4 ?_|refine z6 ?_|refine z8 ?_)|((with_reducible refine z29 ?_);intro A B hA hB;(conv=>whnf))|(with_reducible first|refine z1 ?_|refine z2 ?_|refine z12 ?_)|((with_reducible refine gR ?_);(refine z31 rfl ?_;intro K hK;(conv=>whnf)))|((with_reducible refine gF ?_);(refine z33 rfl ?_;intro K hK;(conv=>whnf)))|((intro _;skip)<;>(conv=>whnf))))
        all_goals exact ⟨y,k,G,u,false,h1,by omega,h4,hspec,rfl,.inl ⟨h2,MemFits.pre 1 rfl⟩⟩
    | false =>
    rw [if_neg (by decide)] at hspec
    (repeat' (first|(with_reducible first|(refine hK _ _ ?_;clear hK K)|(refine hB ?_;clear hA hB A B)|(refine hK _ ?_;clear hK K))|((with_reducible refine z25 ?_);intro K hK;(conv=>whnf))|(with_reducible refine z0 ?_)|((first|((with_reducible refine NIf.no ?s ?_);case s=>rfl)|((with_reducible refine NH.mk ?s ?_);case s=>(and_intros<;>first|with_reducible rfl|((with_reducible refine gOnes ?_);rfl)|((with_reducible refine gLen ?_);rfl)))|((with_reducible refine NCall.isF 66 ?_);refine NCall.subE [0] (c1) rfl (by decide) rfl rfl ?_)|((with_reducible refine NCall.isF 66 ?_);refine NCall.subE [0] (c2) rfl (by decide) rfl rfl ?_)|((with_reducible refine NCall.isF 66 ?_);refine NCall.subE [0] (c3) rfl (by decide) rfl rfl ?_)|((with_reducible refine NCall.isF 66 ?_);refine NCall.subE [0] (c4) rfl (by decide) rfl rfl ?_)|((with_reducible refine NCall.isF 110 ?_);refine NCall.subw [0] _ _ (ca) rfl (by decide) rfl ?_;rintro _ _ ⟨f,w,j,ok,h1,h2,h3,rfl,rfl⟩;refine ⟨Nat.le_of_ble_eq_true rfl,_,rfl,?_⟩))<;>(conv=>whnf))|(with_reducible first|refine z3 ?_|refine z4 ?_|refine z6 ?_|refine z8 ?_)|((with_reducible refine z29 ?_);intro A B hA hB;(conv=>whnf))|(with_reducible first|refine z1 ?_|refine z2 ?_)|((with_reducible refine gR ?_);(refine z31 rfl ?_;intro K hK;(conv=>whnf)))|((with_reducible refine gF ?_);(refine z33 rfl ?_;intro K hK;(conv=>whnf)))|((intro _;skip)<;>(conv=>whnf))))
    all_goals exact ⟨.mk 3 f w [],j,F,.slice none 0 0,ok,F.le_refl,h1,h2,by rw [hspec,h3];cases ok<;>rfl,rfl,.inl ⟨RowF.nil,MemFits.pre 1 rfl⟩⟩
end Go.Proofs.YtaojbkphcnailaaDoor
namespace Go.Sx
set_option linter.unusedVariables false
end Go.Sx
