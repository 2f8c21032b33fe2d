import Derived.Test.YtgphhbadnjfbjaaDoorSu26
namespace Go.Proofs.YtgphhbadnjfbjaaDoor
open Go.Sx
set_option maxRecDepth 20000
set_option linter.unusedSimpArgs false
set_option linter.unusedVariables false
set_option maxHeartbeats 8000000
set_option linter.unusedVariables false
namespace Su
theorem parse_lists (ls:List L):parse ls=bind (must wSwitches (some 1) ls 1) fun a r n=>bind (lists3 r n) fun x ls n=>bind (must wStarts none ls n) fun e ls n=>bind (tails wEnds [] ls n) fun f ls n=>done (cfg a x.1 x.2.1 x.2.2 e f) ls n:=by
  unfold parse lists3
  cases must wSwitches (some 1) ls 1 with
  | bad n=>rfl
  | ok a r n =>
    show bind (lnks r n) _=bind (bind (lnks r n) _) _
    cases lnks r n with
    | bad n=>rfl
    | ok b r n =>
      show bind (hsts r n) _=bind (bind (hsts r n) _) _
      cases hsts r n with
      | bad n=>rfl
      | ok c r n =>
        show bind (wgts r n) _=bind (bind (wgts r n) _) _
        cases wgts r n with
        | bad n=>rfl
        | ok d r n=>rfl
theorem must_at {w:L} {mo:Option Nat} {ls:List L} {i n:Nat} (hi:i<ls.length):must w mo (ls.drop i) n=if (cut w (ls.drop i)).isSome=true then (match intR ls[i] mo with
    | none=>.bad n
    | some xs=>.ok xs (ls.drop (i+1)) (n+1)) else .bad n:=by
  unfold must
  rw [ints_eq hi]
  split
  · rename_i x r e
    split at e
    · rename_i hc
      rw [if_pos hc]
      split at e
      · cases e
      · rename_i h;rw [h];cases e;rfl
    · cases e
  · rename_i e
    by_cases hc:(cut w (ls.drop i)).isSome=true
    · rw [if_pos hc] at e ⊢
      cases h:intR ls[i] mo with
      | none=>rfl
      | some xs=>rw [h] at e;exact (e _ _ rfl).elim
    · rw [if_neg hc]
theorem must_past {w:L} {mo:Option Nat} {ls:List L} {i n:Nat} (hi:ls.length≤i+1):must w mo (ls.drop i) n = .bad n:=by
  unfold must ints
  rw [cut_short hi]
theorem must_no {w:L} {mo:Option Nat} {ls:List L} {i n:Nat} (h:(cut w (ls.drop i)).isSome=false):must w mo (ls.drop i) n = .bad n:=by
  by_cases hi:i<ls.length
  · rw [must_at hi,h,if_neg (by decide)]
  · exact must_past (by omega)
theorem wends_drop:∀ j,j<6→wEnds.drop j=wEnds.getD j []::wEnds.drop (j+1):=by decide
end Su
theorem refparse40_c (F:Heap) (s:List UInt8) (hs:s.length≤1000000) :
    NCall Tryd.prog 9 [.str s] [hpB F] fun r m=>∃ G lv hv wv sv,F.le G∧Su.At G (Su.out s).1 lv hv wv sv∧r = .tup [.agg (Su.cs (Su.out s).1 lv hv wv sv),.int .i64 (Su.out s).2.1,.int .i64 (Su.out s).2.2]∧m=[hpB G]:=by
  refine NCall.fits (K:=fun r m=>∃ G lv hv wv sv,F.le G∧Su.At G (Su.out s).1 lv hv wv sv∧r.den=(AV.tup [.agg (Su.cs (Su.out s).1 lv hv wv sv),.int .i64 (Su.out s).2.1,.int .i64 (Su.out s).2.2]).den∧MemFits m [hpB G]) ?_ fun r m' ⟨G,a,b,c,d,h1,h2,h3,h4⟩=>⟨_,_,h3.symm,h4,G,a,b,c,d,h1,h2,rfl,rfl⟩
  have hz:∀ (G:Heap) (n:Nat) (r:AV) (m:List Blk),F.le G→Su.out s=(Su.none40,n,10)→r.den=(AV.tup [.agg (Su.cs Su.none40 (.slice none 0 0) (.slice none 0 0) (.slice none 0 0) (.slice none 0 0)),.int .i64 n,.int .i64 10]).den→MemFits m [hpB G]→∃ G lv hv wv sv,F.le G∧Su.At G (Su.out s).1 lv hv wv sv∧r.den=(AV.tup [.agg (Su.cs (Su.out s).1 lv hv wv sv),.int .i64 (Su.out s).2.1,.int .i64 (Su.out s).2.2]).den∧MemFits m [hpB G]:=fun G n r m h1 h2 h3 h4=>by
    rw [h2]
    exact ⟨G,_,_,_,_,h1,nil40 G,h3,h4⟩
  have ho:Su.out s=match Su.parse (Su.sp 10 s) with
    | .ok c _ _=>(c,0,0)
    | .bad n=>(Su.none40,n,10):=rfl
  have cl:=reflines40_c F s hs
  have hsub:=fun x hx=>Su.sp_sub 10 s x hx
  have hsl:=Su.sp_len 10 s
  have hne:0<(Su.sp 10 s).length:=List.length_pos_iff.2 (Su.sp_ne 10 s)
  generalize Su.sp 10 s=ls at *
  have hx:∀ x∈ls,x.length≤1000000:=fun x h=>Nat.le_trans (hsub x h) hs
  have cl:=cl.mono fun r m h=>show ∃ G v,F.le G∧Su.strs G v ls∧SlOk v ls.length∧G.c ((addrOf v).add 0) (.string ⟨ls[0].toArray⟩)∧r = .hs v ls.length∧m=[hpB G] from by
    obtain ⟨G,v,h1,h2,h3,h4⟩:=h
    exact ⟨G,v,h1,h2,h2.ok,RowF.get1 (f0:=fun x:List UInt8=>.string ⟨x.toArray⟩) h2 hne,h3,h4⟩
  have hm0:=Su.must_at (w:=Su.wSwitches) (mo:=some 1) (n:=1) hne
  rw [List.drop_zero] at hm0
  have ci:=fun G=>refints40_c G ls[0] (hx _ (List.getElem_mem hne)) 1 (some 1) (.inr ⟨by decide,by decide,rfl⟩)
  have cw:=fun G v (h:Su.strs G v ls)=>refwhole40_c G v ls h (by omega) hx 0 (by omega) Su.wSwitches
  rw [List.drop_zero] at cw
  refine ncall_of Tryd.func9 rfl (by decide) ?_
  cases hc:(Su.cut Su.wSwitches ls).isSome with
  | false =>
    rw [hc,if_neg (by decide)] at hm0
    rw [hc] at cw
    unfold Su.wSwitches at cw
    rw [Su.parse_lists,hm0] at ho
    have ho:Su.out s=(Su.none40,1,10):=ho
    (repeat' (first|(with_reducible first|(refine hK _ _ ?_;clear hK K)|(refine hA ?_;clear hA hB A B)|(refine hK _ ?_;clear hK K))|((with_reducible first|refine z25 ?_|refine z26 ?_);intro K hK;(conv=>whnf))|(with_reducible refine z0 ?_)|((first|((with_reducible refine NIf.yes ?s ?_);case s=>(simp ;done))|(with_reducible first|refine NN.lit ?_|refine NN.a2 ?_)|((with_reducible refine NH.mk ?s ?_);case s=>(and_intros<;>first|with_reducible rfl|((with_reducible refine gOnes ?_);rfl)|((with_reducible refine gLen ?_);rfl)|omega))|((with_reducible refine NCall.isF 17 ?_);refine NCall.subw [0] _ _ (cl) rfl (by decide) rfl ?_;rintro _ _ ⟨G,v,h1,h2,h3,h4,rfl,rfl⟩;refine ⟨Nat.le_of_ble_eq_true rfl,_,rfl,?_⟩)|((with_reducible refine NCall.isF 18 ?_);refine NCall.subw [0] _ _ (ci G) rfl (by decide) rfl ?_;rintro _ _ ⟨G2,v2,xs,ok,i1,i2,i3,i4,rfl,rfl⟩;refine ⟨Nat.le_of_ble_eq_true rfl,_,rfl,?_⟩)|((with_reducible refine NCall.isF 19 ?_);refine NCall.subw [0] _ _ (cw G2 v (RowF.mono i1 (fun _ _ h=>h) h2)) rfl (by decide) rfl ?_;rintro _ _ ⟨rfl,G3,i5,rfl⟩;refine ⟨Nat.le_of_ble_eq_true rfl,_,rfl,?_⟩)|(with_reducible refine NLd.of (by with_reducible assumption) ?_))<;>(conv=>whnf))|(with_reducible first|refine z3 ?_|refine z4 ?_|refine z8 ?_)|((with_reducible refine z29 ?_);intro A B hA hB;(conv=>whnf))|(with_reducible first|refine z1 ?_|refine z2 ?_|refine z12 ?_)|((with_reducible refine gR ?_);(refine z31 rfl ?_;intro K hK;(conv=>whnf)))|((with_reducible refine gF ?_);(refine z33 rfl ?_;intro K hK;(conv=>whnf)))|((intro _;skip)<;>(conv=>whnf))))
    all_goals exact hz _ 1 _ _ ((h1.trans i1).trans i5) ho rfl (MemFits.pre 1 rfl)
  | true =>
    rw [hc,if_pos rfl] at hm0
    rw [hc] at cw
    unfold Su.wSwitches at cw
    cases hq:Su.intR ls[0] (some 1) with
    | none =>
      rw [hq] at hm0 ci
      rw [Su.parse_lists,hm0] at ho
      have ho:Su.out s=(Su.none40,1,10):=ho
      have ci:=fun G=>(ci G).mono fun r m h=>show ∃ G' v' n,G.le G'∧r = .tup [.hs v' n,.bool false]∧m=[hpB G'] from by
        obtain ⟨G',v',xs,ok,h1,h2,h3,h4,h5,h6⟩:=h
        cases ok with
        | true=>cases h3 rfl
        | false=>exact ⟨G',v',_,h1,h5,h6⟩
      (repeat' (first|(with_reducible first|(refine hK _ _ ?_;clear hK K)|(refine hA ?_;clear hA hB A B)|(refine hK _ ?_;clear hK K))|((with_reducible first|refine z25 ?_|refine z26 ?_);intro K hK;(conv=>whnf))|(with_reducible refine z0 ?_)|((first|((with_reducible refine NIf.yes ?s ?_);case s=>(simp ;done))|((with_reducible refine NIf.no ?s ?_);case s=>(simp ;done))|(with_reducible first|refine NN.lit ?_|refine NN.a2 ?_)|((with_reducible refine NH.mk ?s ?_);case s=>(and_intros<;>first|with_reducible rfl|((with_reducible refine gOnes ?_);rfl)|((with_reducible refine gLen ?_);rfl)|omega))|((with_reducible refine NCall.isF 17 ?_);refine NCall.subw [0] _ _ (cl) rfl (by decide) rfl ?_;rintro _ _ ⟨G,v,h1,h2,h3,h4,rfl,rfl⟩;refine ⟨Nat.le_of_ble_eq_true rfl,_,rfl,?_⟩)|((with_reducible refine NCall.isF 18 ?_);refine NCall.subw [0] _ _ (ci G) rfl (by decide) rfl ?_;rintro _ _ ⟨G2,v2,n2,i1,rfl,rfl⟩;refine ⟨Nat.le_of_ble_eq_true rfl,_,rfl,?_⟩)|((with_reducible refine NCall.isF 19 ?_);refine NCall.subw [0] _ _ (cw G2 v (RowF.mono i1 (fun _ _ h=>h) h2)) rfl (by decide) rfl ?_;rintro _ _ ⟨rfl,G3,i5,rfl⟩;refine ⟨Nat.le_of_ble_eq_true rfl,_,rfl,?_⟩)|(with_reducible refine NLd.of (by with_reducible assumption) ?_))<;>(conv=>whnf))|(with_reducible first|refine z3 ?_|refine z4 ?_|refine z8 ?_)|((with_reducible refine z29 ?_);intro A B hA hB;(conv=>whnf))|(with_reducible first|refine z1 ?_|refine z2 ?_|refine z12 ?_)|((with_reducible refine gR ?_);(refine z31 rfl ?_;intro K hK;(conv=>whnf)))|((with_reducible refine gF ?_);(refine z33 rfl ?_;intro K hK;(conv=>whnf)))|((intro _;skip)<;>(conv=>whnf))))
      all_goals exact hz _ 1 _ _ ((h1.trans i1).trans i5) ho rfl (MemFits.pre 1 rfl)
    | some xs =>
      obtain ⟨sw,rfl⟩:∃ sw,xs=[sw]:=by
        have:=Su.intR_len hq
        match xs,this with
        | [sw],_=>exact ⟨sw,rfl⟩
      have hl1:1<ls.length:=Su.cut_in (i:=0) (w:=Su.wSwitches) hc
      rw [hq] at hm0 ci
      have ci:=fun G=>(ci G).mono fun r m h=>show ∃ G' v',G.le G'∧(SlOk v' 1∧Su.Ints G' v' [sw])∧r = .tup [.hs v' 1,.bool true]∧m=[hpB G'] from by
        obtain ⟨G',v',xs,ok,h1,h2,h3,h4,h5,h6⟩:=h
        cases ok with
        | false=>cases h4 rfl
        | true =>
          obtain rfl:=Option.some.inj (h3 rfl)
          exact ⟨G',v',h1,⟨h2.ok,h2⟩,h5,h6⟩
      have cw:=fun G v v' (h:Su.strs G v ls) (hI:Su.Ints G v' [sw])=>(cw G v h).mono fun r m h=>show r = .bool true∧∃ G',G.le G'∧G'.c ((addrOf v').add 0) (.int .i64 sw)∧m=[hpB G'] from by
        obtain ⟨h1,G',h2,h3⟩:=h
        exact ⟨h1,G',h2,Su.int_at (RowF.mono h2 (fun _ _ h=>h) hI) (i:=0) rfl,h3⟩
      have hp:Su.parse ls=Su.bind (Su.lists3 (ls.drop 1) 2) fun x ls n=>Su.bind (Su.must Su.wStarts none ls n) fun e ls n=>Su.bind (Su.tails Su.wEnds [] ls n) fun f ls n=>Su.done (Su.cfg [sw] x.1 x.2.1 x.2.2 e f) ls n:=by
        rw [Su.parse_lists,hm0];rfl
      rw [hp] at ho
      have cL:=fun G v (h:Su.strs G v ls)=>reflists40_c G v ls h (by omega) hl1 hx sw
      cases hL:Su.lists3 (ls.drop 1) 2 with
      | bad n =>
        rw [hL] at ho cL
        have ho:Su.out s=(Su.none40,n,10):=ho
        have cL:=fun G v h=>(cL G v h).mono fun r m h=>show ∃ G' c lw hw ww i,G.le G'∧i≤1000001∧n=i+1∧r = .tup [.agg (Su.cs c lw hw ww (.slice none 0 0)),.int .i64 (i:Nat),.bool false]∧m=[hpB G'] from by
          obtain ⟨G',c,lw,hw,ww,i,ok,h1,h2,h3,h4,h5,h6,h7⟩:=h
          cases ok with
          | true =>
            obtain ⟨_,_,_,h,_⟩:=h3 rfl
            cases h
          | false =>
            have h4:=h4 rfl
            injection h4 with h4
            exact ⟨G',c,lw,hw,ww,i,h1,h5,h4,h6,h7⟩
        unfold Su.cs at cL
        (repeat' (first|(with_reducible first|(refine hK _ _ ?_;clear hK K)|(refine hA ?_;clear hA hB A B)|(refine hB ?_;clear hA hB A B)|(refine hK _ ?_;clear hK K))|((with_reducible first|refine z25 ?_|refine z26 ?_);intro K hK;(conv=>whnf))|(with_reducible refine z0 ?_)|((first|((with_reducible refine NV.i64 ?s ?_);case s=>omega)|((with_reducible refine NIf.yes ?s ?_);case s=>(simp ;done))|((with_reducible refine NIf.no ?s ?_);case s=>(simp ;done))|(with_reducible first|refine NN.lit ?_|refine NN.a2 ?_|refine NN.a5 ?_)|((with_reducible refine NH.mk ?s ?_);case s=>(and_intros<;>first|with_reducible rfl|((with_reducible refine gOnes ?_);rfl)|((with_reducible refine gLen ?_);rfl)|omega))|((with_reducible refine NCall.isF 17 ?_);refine NCall.subw [0] _ _ (cl) rfl (by decide) rfl ?_;rintro _ _ ⟨G,v,h1,h2,h3,h4,rfl,rfl⟩;refine ⟨Nat.le_of_ble_eq_true rfl,_,rfl,?_⟩)|((with_reducible refine NCall.isF 18 ?_);refine NCall.subw [0] _ _ (ci G) rfl (by decide) rfl ?_;rintro _ _ ⟨G2,v2,i1,⟨i2,i3⟩,rfl,rfl⟩;refine ⟨Nat.le_of_ble_eq_true rfl,_,rfl,?_⟩)|((with_reducible refine NCall.isF 19 ?_);refine NCall.subw [0] _ _ (cw G2 v v2 (RowF.mono i1 (fun _ _ h=>h) h2) i3) rfl (by decide) rfl ?_;rintro _ _ ⟨rfl,G3,i5,i6,rfl⟩;refine ⟨Nat.le_of_ble_eq_true rfl,_,rfl,?_⟩)|((with_reducible refine NCall.isF 20 ?_);refine NCall.subw [0] _ _ (cL G3 v (RowF.mono (i1.trans i5) (fun _ _ h=>h) h2)) rfl (by decide) rfl ?_;rintro _ _ ⟨G4,c,lw,hw,ww,i,j1,j2,rfl,rfl,rfl⟩;refine ⟨Nat.le_of_ble_eq_true rfl,_,rfl,?_⟩)|(with_reducible refine NLd.of (by with_reducible assumption) ?_))<;>(conv=>whnf))|(with_reducible first|refine z3 ?_|refine z4 ?_|refine z6 ?_|refine z8 ?_)|((with_reducible refine z29 ?_);intro A B hA hB;(conv=>whnf))|(with_reducible first|refine z1 ?_|refine z2 ?_|refine z12 ?_)|((with_reducible refine gR ?_);(refine z31 rfl ?_;intro K hK;(conv=>whnf)))|((with_reducible refine gF ?_);(refine z33 rfl ?_;intro K hK;(conv=>whnf)))|((intro _;skip)<;>(conv=>whnf))))
        all_goals exact hz _ _ _ _ (((h1.trans i1).trans i5).trans j1) ho rfl (MemFits.pre 1 rfl)
      | ok x r n =>
        obtain ⟨b,h,w⟩:=x
        rw [hL] at ho cL
        have cL:=fun G v hv=>(cL G v hv).mono fun r' m hr=>show ∃ G' lw hw ww i,G.le G'∧Su.At G' ⟨sw,b,h,w,[],0,0,0,0,0,0⟩ lw hw ww (.slice none 0 0)∧(n=i+1∧r=ls.drop i∧i<ls.length)∧r' = .tup [.agg (Su.cs ⟨sw,b,h,w,[],0,0,0,0,0,0⟩ lw hw ww (.slice none 0 0)),.int .i64 (i:Nat),.bool true]∧m=[hpB G'] from by
          obtain ⟨G',c,lw,hw,ww,i,ok,h1,h2,h3,h4,h5,h6,h7⟩:=hr
          cases ok with
          | false=>cases h4 rfl
          | true =>
            obtain ⟨b',h',w',he,hi,rfl⟩:=h3 rfl
            injection he with he1 he2 he3
            injection he1 with he4 he5
            injection he5 with he5 he6
            subst he4 he5 he6
            exact ⟨G',lw,hw,ww,i,h1,h2,⟨he3,he2,hi⟩,h6,h7⟩
        unfold Su.cs at cL
        (repeat' (first|(with_reducible first|(refine hK _ _ ?_;clear hK K)|(refine hB ?_;clear hA hB A B)|(refine hK _ ?_;clear hK K))|((with_reducible first|refine z25 ?_|refine z26 ?_);intro K hK;(conv=>whnf))|(with_reducible refine z0 ?_)|((first|((with_reducible refine NIf.no ?s ?_);case s=>(simp ;done))|(with_reducible first|refine NN.lit ?_|refine NN.a2 ?_|refine NN.a5 ?_)|((with_reducible refine NH.mk ?s ?_);case s=>(and_intros<;>first|with_reducible rfl|((with_reducible refine gOnes ?_);rfl)|((with_reducible refine gLen ?_);rfl)|omega))|((with_reducible refine NCall.isF 17 ?_);refine NCall.subw [0] _ _ (cl) rfl (by decide) rfl ?_;rintro _ _ ⟨G,v,h1,h2,h3,h4,rfl,rfl⟩;refine ⟨Nat.le_of_ble_eq_true rfl,_,rfl,?_⟩)|((with_reducible refine NCall.isF 18 ?_);refine NCall.subw [0] _ _ (ci G) rfl (by decide) rfl ?_;rintro _ _ ⟨G2,v2,i1,⟨i2,i3⟩,rfl,rfl⟩;refine ⟨Nat.le_of_ble_eq_true rfl,_,rfl,?_⟩)|((with_reducible refine NCall.isF 19 ?_);refine NCall.subw [0] _ _ (cw G2 v v2 (RowF.mono i1 (fun _ _ h=>h) h2) i3) rfl (by decide) rfl ?_;rintro _ _ ⟨rfl,G3,i5,i6,rfl⟩;refine ⟨Nat.le_of_ble_eq_true rfl,_,rfl,?_⟩)|((with_reducible refine NCall.isF 20 ?_);refine NCall.subw [0] _ _ (cL G3 v (RowF.mono (i1.trans i5) (fun _ _ h=>h) h2)) rfl (by decide) rfl ?_;rintro _ _ ⟨G4,lw,hw,ww,i,j1,j2,⟨rfl,rfl,hi⟩,rfl,rfl⟩;refine ⟨Nat.le_of_ble_eq_true rfl,_,rfl,?_⟩)|(with_reducible refine NLd.of (by with_reducible assumption) ?_))<;>(conv=>whnf))|(with_reducible first|refine z3 ?_|refine z4 ?_|refine z6 ?_)|((with_reducible refine z29 ?_);intro A B hA hB;(conv=>whnf))|(with_reducible first|refine z1 ?_|refine z2 ?_)|((with_reducible refine gF ?_);(refine z33 rfl ?_;intro K hK;(conv=>whnf)))|((intro _;skip)<;>(conv=>whnf))))
        have hv4:Su.strs G4 v ls:=RowF.mono ((i1.trans i5).trans j1) (fun _ _ h=>h) h2
        have hF4:F.le G4:=((h1.trans i1).trans i5).trans j1
        have cw4:=refwhole40_c G4 v ls hv4 (by omega) hx i (by omega) Su.wStarts
        have hm1:=Su.must_at (w:=Su.wStarts) (mo:=none) (n:=i+1) hi
        have ho:Su.out s=match (Su.bind (Su.must Su.wStarts none (ls.drop i) (i+1)) fun e ls n=>Su.bind (Su.tails Su.wEnds [] ls n) fun f ls n=>Su.done (Su.cfg [sw] b h w e f) ls n) with
          | .ok c _ _=>(c,0,0)
          | .bad n=>(Su.none40,n,10):=ho
        clear cl ci cw cL hm0 hp hL
        cases hc4:(Su.cut Su.wStarts (ls.drop i)).isSome with
        | false =>
          rw [hc4] at cw4
          rw [hc4,if_neg (by decide)] at hm1
          unfold Su.wStarts at cw4
          rw [hm1] at ho
          have ho:Su.out s=(Su.none40,i+1,10):=ho
          (repeat' (first|(with_reducible first|(refine hK _ _ ?_;clear hK K)|(refine hA ?_;clear hA hB A B)|(refine hK _ ?_;clear hK K))|((with_reducible first|refine z25 ?_|refine z26 ?_);intro K hK;(conv=>whnf))|(with_reducible refine z0 ?_)|((first|((with_reducible refine NV.i64 ?s ?_);case s=>omega)|with_reducible refine NIf.not_ ?_|((with_reducible refine NIf.yes ?s ?_);case s=>rfl)|((with_reducible refine NIf.no ?s ?_);case s=>rfl)|((with_reducible refine NH.mk ?s ?_);case s=>(and_intros<;>first|with_reducible rfl|((with_reducible refine gOnes ?_);rfl)|((with_reducible refine gLen ?_);rfl)))|((with_reducible refine NCall.isF 19 ?_);refine NCall.subw [0] _ _ (cw4) rfl (by decide) rfl ?_;rintro _ _ ⟨rfl,G5,k1,rfl⟩;refine ⟨Nat.le_of_ble_eq_true rfl,_,rfl,?_⟩))<;>(conv=>whnf))|(with_reducible first|refine z3 ?_|refine z4 ?_|refine z8 ?_)|((with_reducible refine z29 ?_);intro A B hA hB;(conv=>whnf))|(with_reducible first|refine z1 ?_|refine z2 ?_|refine z12 ?_)|((with_reducible refine gR ?_);(refine z31 rfl ?_;intro K hK;(conv=>whnf)))))
          all_goals exact hz _ _ _ _ (hF4.trans k1) ho rfl (MemFits.pre 1 rfl)
        | true =>
          rw [hc4] at cw4
          rw [hc4,if_pos rfl] at hm1
          unfold Su.wStarts at cw4
          have cw4:=cw4.mono fun r m h=>show r = .bool true∧∃ G5,G4.le G5∧G5.c ((addrOf v).add i) (.string ⟨ls[i].toArray⟩)∧m=[hpB G5] from by
            obtain ⟨h1,G5,h2,h3⟩:=h
            exact ⟨h1,G5,h2,RowF.get1 (f0:=fun x:List UInt8=>.string ⟨x.toArray⟩) (RowF.mono h2 (fun _ _ h=>h) hv4) hi,h3⟩
          have ci:=fun G=>refints40_c G ls[i] (hx _ (List.getElem_mem hi)) (-1) none (.inl ⟨by decide,rfl⟩)
          cases hq2:Su.intR ls[i] none with
          | none =>
            rw [hq2] at ci hm1
            rw [hm1] at ho
            have ho:Su.out s=(Su.none40,i+1,10):=ho
            have ci:=fun G=>(ci G).mono fun r m h=>show ∃ G' v' n,G.le G'∧r = .tup [.hs v' n,.bool false]∧m=[hpB G'] from by
              obtain ⟨G',v',xs,ok,h1,h2,h3,h4,h5,h6⟩:=h
              cases ok with
              | true=>cases h3 rfl
              | false=>exact ⟨G',v',_,h1,h5,h6⟩
            generalize ls[i]=y at *
            (repeat' (first|(with_reducible first|(refine hK _ _ ?_;clear hK K)|(refine hA ?_;clear hA hB A B)|(refine hB ?_;clear hA hB A B)|(refine hK _ ?_;clear hK K))|((with_reducible first|refine z25 ?_|refine z26 ?_);intro K hK;(conv=>whnf))|(with_reducible refine z0 ?_)|((first|((with_reducible refine NV.i64 ?s ?_);case s=>omega)|with_reducible refine NIf.not_ ?_|((with_reducible refine NIf.yes ?s ?_);case s=>rfl)|((with_reducible refine NIf.no ?s ?_);case s=>rfl)|(with_reducible first|refine NN.cast ?_|refine NN.a2 ?_|refine NN.a5 ?_)|((with_reducible refine NH.mk ?s ?_);case s=>(and_intros<;>first|with_reducible rfl|((with_reducible refine gOnes ?_);rfl)|((with_reducible refine gLen ?_);rfl)|omega))|((with_reducible refine NCall.isF 19 ?_);refine NCall.subw [0] _ _ (cw4) rfl (by decide) rfl ?_;rintro _ _ ⟨rfl,G5,k1,k2,rfl⟩;refine ⟨Nat.le_of_ble_eq_true rfl,_,rfl,?_⟩)|((with_reducible refine NCall.isF 18 ?_);refine NCall.subw [0] _ _ (ci G5) rfl (by decide) rfl ?_;rintro _ _ ⟨G6,v6,n6,k3,rfl,rfl⟩;refine ⟨Nat.le_of_ble_eq_true rfl,_,rfl,?_⟩)|(with_reducible refine NLd.of (by with_reducible assumption) ?_))<;>(conv=>whnf))|(with_reducible first|refine z3 ?_|refine z4 ?_|refine z6 ?_|refine z8 ?_)|((with_reducible refine z29 ?_);intro A B hA hB;(conv=>whnf))|(with_reducible first|refine z1 ?_|refine z2 ?_|refine z12 ?_)|((with_reducible refine gR ?_);(refine z31 rfl ?_;intro K hK;(conv=>whnf)))))
            all_goals exact hz _ _ _ _ ((hF4.trans k1).trans k3) ho rfl (MemFits.pre 1 rfl)
          | some e =>
            rw [hq2] at ci hm1
            rw [hm1] at ho
            have ci:=fun G=>(ci G).mono fun r m h=>show ∃ G' v',G.le G'∧(SlOk v' e.length∧Su.Ints G' v' e)∧r = .tup [.hs v' e.length,.bool true]∧m=[hpB G'] from by
              obtain ⟨G',v',xs,ok,h1,h2,h3,h4,h5,h6⟩:=h
              cases ok with
              | false=>cases h4 rfl
              | true =>
                obtain rfl:=Option.some.inj (h3 rfl)
                exact ⟨G',v',h1,⟨h2.ok,h2⟩,h5,h6⟩
            obtain ⟨res,hres,ho⟩:∃ res,res=Su.bind (Su.tails Su.wEnds [] (ls.drop (i+1)) (i+2)) (fun f ls n=>Su.done (Su.cfg [sw] b h w e f) ls n)∧Su.out s=(match res with
              | .ok c _ _=>(c,0,0)
              | .bad n=>(Su.none40,n,10)):=⟨_,rfl,ho⟩
            have hme:∀ {G:Heap} {p:Nat} (h:G4.le G) (hp:p<ls.length),G.c ((addrOf v).add p) (.string ⟨ls[p].toArray⟩):=fun h hp=>RowF.get1 (f0:=fun x:List UInt8=>.string ⟨x.toArray⟩) (RowF.mono h (fun _ _ h=>h) hv4) hp
            have hl2:i+1<ls.length:=Su.cut_in hc4
            clear hm1 hq2 hc4
            generalize ls[i]=y at ci cw4
            (repeat' (first|(with_reducible first|(refine hK _ _ ?_;clear hK K)|(refine hB ?_;clear hA hB A B))|((with_reducible first|refine z25 ?_|refine z26 ?_);intro K hK;(conv=>whnf))|(with_reducible refine z0 ?_)|((first|with_reducible refine NIf.not_ ?_|((with_reducible refine NIf.yes ?s ?_);case s=>rfl)|(with_reducible first|refine NN.cast ?_|refine NN.a2 ?_|refine NN.a5 ?_)|((with_reducible refine NH.mk ?s ?_);case s=>(and_intros<;>first|with_reducible rfl|((with_reducible refine gOnes ?_);rfl)|((with_reducible refine gLen ?_);rfl)|omega))|((with_reducible refine NCall.isF 19 ?_);refine NCall.subw [0] _ _ (cw4) rfl (by decide) rfl ?_;rintro _ _ ⟨rfl,G5,k1,k2,rfl⟩;refine ⟨Nat.le_of_ble_eq_true rfl,_,rfl,?_⟩)|((with_reducible refine NCall.isF 18 ?_);refine NCall.subw [0] _ _ (ci G5) rfl (by decide) rfl ?_;rintro _ _ ⟨G6,v6,k3,⟨k4,k5⟩,rfl,rfl⟩;refine ⟨Nat.le_of_ble_eq_true rfl,_,rfl,?_⟩)|(with_reducible refine NLd.of (by with_reducible assumption) ?_))<;>(conv=>whnf))|(with_reducible first|refine z3 ?_|refine z4 ?_|refine z5 ?_|refine z6 ?_)|((with_reducible refine z29 ?_);intro A B hA hB;(conv=>whnf))|(with_reducible first|refine z1 ?_|refine z2 ?_)))
            refine st_auto (α:=Nat × Nat × Heap × List Int × Value) (fun (j,p,G,es,q)=>j≤6∧es.length=j∧p=i+j∧p<ls.length∧G6.le G∧res=Su.bind (Su.tails (Su.wEnds.drop j) es (ls.drop (p+1)) (p+2)) (fun f ls n=>Su.done (Su.cfg [sw] b h w e f) ls n))
              (fun (j,p,G,es,q)=>[.keep,.keep,.keep,.drop,.drop,.keep,.keep,.keep,.keep,.keep,.set (.int .i64 p),.set (.sl 4 q es.length),.set (.int .i64 j),.drop,.drop,.keep,.keep,.keep,.keep,.keep,.keep,.keep,.keep,.keep,.keep,.keep,.keep,.keep,.keep,.keep,.keep,.keep,.keep,.keep,.keep,.keep,.keep,.keep,.keep,.keep,.keep,.keep,.keep,.keep,.keep,.keep,.keep,.keep,.keep,.keep,.keep,.keep,.keep,.keep,.keep,.keep,.keep,.keep,.keep,.keep,.keep,.keep,.keep,.keep,.keep,.keep,.keep,.keep,.keep,.keep,.keep,.drop,.drop,.drop,.drop,.drop,.drop,.drop,.drop,.drop,.drop,.drop,.drop,.drop,.drop,.drop,.drop,.drop,.drop,.drop,.drop,.drop,.drop,.drop,.drop,.drop,.drop,.drop,.drop,.drop,.drop,.drop,.drop,.drop,.drop,.keep,.keep,.keep,.keep,.keep,.keep,.keep,.keep,.keep,.keep,.keep,.keep,.keep,.keep,.keep,.keep,.keep,.keep,.keep,.keep,.keep,.keep,.keep,.keep,.keep,.keep,.keep,.keep,.keep,.keep,.keep,.keep,.keep,.keep,.keep,.keep,.keep,.keep,.keep,.keep,.keep])
              (fun (j,p,G,es,q)=>[.set (hpB G),.keep,.keep,.keep,.set ⟨addrOf q,Su.intAV es,.row q 3 1 es.length⟩])
              (fun (j,p,G,es,q)=>6 - j) (0,i,G6,[],.slice none 0 0) ⟨by decide,rfl,rfl,hi,Heap.le_refl _,hres⟩ ?_ ?_ ?_
            · repeat (first|exact FitsSl.nil|refine FitsSl.any ?_|refine FitsSl.cons (Fit1.int (by first | rfl | omega)) ?_|refine FitsSl.cons (Fit1.bool rfl) ?_|refine FitsSl.cons (Fit1.str rfl) ?_|refine FitsSl.cons (Fit1.same (by intro h;cases h) (by with_reducible rfl)) ?_|refine FitsSl.cons Fit1.nil_sl ?_)
            · exact MemFits.nilRow _ _ _
            (intro ⟨j,p,G,es,q⟩ ⟨f1,f2,f3,f4,f5,f6⟩;intro K hK;(conv=>whnf);refine hK _ _ ?_;clear hK K)
            dsimp only at f1 f2 f3 f4 f5 f6 ⊢
            clear hres
            have hG4:G4.le G:=(k1.trans k3).trans f5
            by_cases hj:j<6
            · have cwd:=word40_c j hj
              have htl:Su.wEnds.drop j=Su.wEnds.getD j []::Su.wEnds.drop (j+1):=Su.wends_drop j hj
              rw [htl] at f6
              generalize Su.wEnds.getD j []=wd at *
              have cwj:=refwhole40_c G v ls (RowF.mono hG4 (fun _ _ h=>h) hv4) (by omega) hx (p+1) (by omega) wd
              have htl2:Su.tails (wd::Su.wEnds.drop (j+1)) es (ls.drop (p+1)) (p+2)=Su.bind (Su.must wd (some 1) (ls.drop (p+1)) (p+2)) fun x r k=>Su.tails (Su.wEnds.drop (j+1)) (es++[x.getD 0 0]) r k:=rfl
              rw [htl2] at f6
              cases hc5:(Su.cut wd (ls.drop (p+1))).isSome with
              | false =>
                rw [hc5] at cwj
                rw [Su.must_no hc5] at f6
                subst f6
                have ho:Su.out s=(Su.none40,p+2,10):=ho
                clear cw4 ci
                (repeat' (first|(with_reducible first|(refine hK _ _ ?_;clear hK K)|(refine hA ?_;clear hA hB A B)|(refine hK _ ?_;clear hK K))|((with_reducible refine z25 ?_);intro K hK;(conv=>whnf))|(with_reducible refine z0 ?_)|((first|((with_reducible refine NV.i64 ?s ?_);case s=>omega)|with_reducible refine NIf.not_ ?_|((with_reducible refine NIf.decY ?s ?_);case s=>omega)|((with_reducible refine NIf.no ?s ?_);case s=>rfl)|((with_reducible refine NH.mk ?s ?_);case s=>(and_intros<;>first|with_reducible rfl|((with_reducible refine gOnes ?_);rfl)|((with_reducible refine gLen ?_);rfl)))|((with_reducible refine NCall.isF 21 ?_);refine NCall.pureE (cwd) ?_)|((with_reducible refine NCall.isF 19 ?_);refine NCall.subw [0] _ _ (cwj) rfl (by decide) rfl ?_;rintro _ _ ⟨rfl,G7,x1,rfl⟩;refine ⟨Nat.le_of_ble_eq_true rfl,_,rfl,?_⟩))<;>(conv=>whnf))|(with_reducible first|refine z3 ?_|refine z4 ?_|refine z5 ?_|refine z6 ?_|refine z8 ?_)|((with_reducible refine z29 ?_);intro A B hA hB;(conv=>whnf))|(with_reducible first|refine z1 ?_|refine z2 ?_|refine z12 ?_|refine z13 ?_|refine z20 ?_)|((with_reducible refine gR ?_);(refine z31 rfl ?_;intro K hK;(conv=>whnf)))))
                all_goals exact hz _ _ _ _ ((hF4.trans hG4).trans x1) ho rfl (MemFits.pre 1 rfl)
              | true =>
                have hl3:p+1+1<ls.length:=Su.cut_in hc5
                have hm2:=Su.must_at (w:=wd) (mo:=some 1) (n:=p+2) (by omega:p+1<ls.length)
                rw [hc5] at cwj
                rw [hc5,if_pos rfl] at hm2
                rw [hm2] at f6
                have cwj:=cwj.mono fun r m h=>show r = .bool true∧∃ G5,G.le G5∧G5.c ((addrOf v).add (p+1)) (.string ⟨ls[p+1].toArray⟩)∧m=[hpB G5] from by
                  obtain ⟨h1,G5,h2,h3⟩:=h
                  exact ⟨h1,G5,h2,hme (hG4.trans h2) (by omega),h3⟩
                have ci:=fun G=>refints40_c G ls[p+1] (hx _ (List.getElem_mem (by omega:p+1<ls.length))) 1 (some 1) (.inr ⟨by decide,by decide,rfl⟩)
                cases hq3:Su.intR ls[p+1] (some 1) with
                | none =>
                  rw [hq3] at ci f6
                  subst f6
                  have ho:Su.out s=(Su.none40,p+2,10):=ho
                  have ci:=fun G=>(ci G).mono fun r m h=>show ∃ G' v' n,G.le G'∧r = .tup [.hs v' n,.bool false]∧m=[hpB G'] from by
                    obtain ⟨G',v',xs,ok,h1,h2,h3,h4,h5,h6⟩:=h
                    cases ok with
                    | true=>cases h3 rfl
                    | false=>exact ⟨G',v',_,h1,h5,h6⟩
                  clear hq3 hm2 cw4
                  generalize ls[p+1]=y2 at *
                  (repeat' (first|(with_reducible first|(refine hK _ _ ?_;clear hK K)|(refine hA ?_;clear hA hB A B)|(refine hB ?_;clear hA hB A B)|(refine hK _ ?_;clear hK K))|((with_reducible refine z25 ?_);intro K hK;(conv=>whnf))|(with_reducible refine z0 ?_)|((first|((with_reducible refine NV.i64 ?s ?_);case s=>omega)|with_reducible refine NIf.not_ ?_|((with_reducible refine NIf.decY ?s ?_);case s=>omega)|((with_reducible refine NIf.yes ?s ?_);case s=>rfl)|((with_reducible refine NIf.no ?s ?_);case s=>rfl)|((with_reducible refine NN.eq (n:=p+1) ?side ?_);case side=>omega)|((with_reducible refine NH.mk ?s ?_);case s=>(and_intros<;>first|with_reducible rfl|((with_reducible refine gOnes ?_);rfl)|((with_reducible refine gLen ?_);rfl)|omega))|((with_reducible refine NCall.isF 21 ?_);refine NCall.pureE (cwd) ?_)|((with_reducible refine NCall.isF 19 ?_);refine NCall.subw [0] _ _ (cwj) rfl (by decide) rfl ?_;rintro _ _ ⟨rfl,G7,x1,x2,rfl⟩;refine ⟨Nat.le_of_ble_eq_true rfl,_,rfl,?_⟩)|((with_reducible refine NCall.isF 18 ?_);refine NCall.subw [0] _ _ (ci G7) rfl (by decide) rfl ?_;rintro _ _ ⟨G8,v8,n8,x3,rfl,rfl⟩;refine ⟨Nat.le_of_ble_eq_true rfl,_,rfl,?_⟩)|(with_reducible refine NLd.of (by with_reducible assumption) ?_))<;>(conv=>whnf))|(with_reducible first|refine z3 ?_|refine z4 ?_|refine z5 ?_|refine z6 ?_|refine z8 ?_)|((with_reducible refine z29 ?_);intro A B hA hB;(conv=>whnf))|(with_reducible first|refine z1 ?_|refine z2 ?_|refine z12 ?_|refine z13 ?_|refine z20 ?_)|((with_reducible refine gR ?_);(refine z31 rfl ?_;intro K hK;(conv=>whnf)))))
                  all_goals exact hz _ _ _ _ (((hF4.trans hG4).trans x1).trans x3) ho rfl (MemFits.pre 1 rfl)
                | some xs =>
                  obtain ⟨x,rfl⟩:∃ x,xs=[x]:=by
                    have:=Su.intR_len hq3
                    match xs,this with
                    | [x],_=>exact ⟨x,rfl⟩
                  rw [hq3] at ci f6
                  have f6:res=Su.bind (Su.tails (Su.wEnds.drop (j+1)) (es++[x]) (ls.drop (p+1+1)) (p+1+2)) (fun f ls n=>Su.done (Su.cfg [sw] b h w e f) ls n):=f6
                  have ci:=fun G=>(ci G).mono fun r m h=>show ∃ G' v',G.le G'∧(SlOk v' 1∧G'.c ((addrOf v').add 0) (.int .i64 x))∧r = .tup [.hs v' 1,.bool true]∧m=[hpB G'] from by
                    obtain ⟨G',v',xs,ok,h1,h2,h3,h4,h5,h6⟩:=h
                    cases ok with
                    | false=>cases h4 rfl
                    | true =>
                      obtain rfl:=Option.some.inj (h3 rfl)
                      exact ⟨G',v',h1,⟨h2.ok,Su.int_at h2 (i:=0) rfl⟩,h5,h6⟩
                  clear hq3 hm2 cw4
                  generalize ls[p+1]=y2 at *
                  (repeat' (first|(with_reducible first|(refine hK _ _ ?_;clear hK K)|(refine hA ?_;clear hA hB A B)|(refine hB ?_;clear hA hB A B))|((with_reducible refine z25 ?_);intro K hK;(conv=>whnf))|(with_reducible refine z0 ?_)|((first|((with_reducible refine NV.i64 ?s ?_);case s=>omega)|with_reducible refine NIf.not_ ?_|((with_reducible refine NIf.decY ?s ?_);case s=>omega)|((with_reducible refine NIf.yes ?s ?_);case s=>rfl)|((with_reducible refine NN.eq (n:=p+1) ?side ?_);case side=>omega)|(with_reducible first|refine NN.lit ?_|refine NN.a2 ?_)|((with_reducible refine NH.mk ?s ?_);case s=>(and_intros<;>first|with_reducible rfl|((with_reducible refine gOnes ?_);rfl)|((with_reducible refine gLen ?_);rfl)|omega))|((with_reducible refine NCall.isF 21 ?_);refine NCall.pureE (cwd) ?_)|((with_reducible refine NCall.isF 19 ?_);refine NCall.subw [0] _ _ (cwj) rfl (by decide) rfl ?_;rintro _ _ ⟨rfl,G7,x1,x2,rfl⟩;refine ⟨Nat.le_of_ble_eq_true rfl,_,rfl,?_⟩)|((with_reducible refine NCall.isF 18 ?_);refine NCall.subw [0] _ _ (ci G7) rfl (by decide) rfl ?_;rintro _ _ ⟨G8,v8,x3,⟨x4,x5⟩,rfl,rfl⟩;refine ⟨Nat.le_of_ble_eq_true rfl,_,rfl,?_⟩)|(with_reducible refine NLd.of (by with_reducible assumption) ?_))<;>(conv=>whnf))|(with_reducible first|refine z3 ?_|refine z4 ?_|refine z5 ?_|refine z6 ?_)|((with_reducible refine z29 ?_);intro A B hA hB;(conv=>whnf))|(with_reducible first|refine z1 ?_|refine z2 ?_|refine z9 ?_)|((intro _;skip)<;>(conv=>whnf))))
                  all_goals
                    rename_i w2
                    refine st_round (j+1,p+1,G8,es++[x],w2) ⟨hj,by dsimp only;rw [List.length_append,f2];rfl,by dsimp only;omega,by dsimp only;omega,(f5.trans x1).trans x3,f6⟩ (by dsimp only;omega) ?_ ?_
                    · dsimp only
                      rw [List.length_append]
                      repeat (first|exact FitsSl.nil|refine FitsSl.any ?_|refine FitsSl.cons (Fit1.int (by first | rfl | omega)) ?_|refine FitsSl.cons (Fit1.bool rfl) ?_|refine FitsSl.cons (Fit1.str rfl) ?_|refine FitsSl.cons (Fit1.same (by intro h;cases h) (by with_reducible rfl)) ?_|refine FitsSl.cons (Fit1.sl rfl) ?_)
                    · dsimp only
                      rw [List.length_append]
                      unfold Su.intAV
                      rw [List.map_append]
                      exact MemFits.pre 5 rfl
            · obtain rfl:j=6:=by omega
              obtain ⟨e0,e1,e2,e3,e4,e5,rfl⟩:=Su.six f2
              have f6:res=Su.done (Su.cfg [sw] b h w e [e0,e1,e2,e3,e4,e5]) (ls.drop (p+1)) (p+2):=f6
              clear cw4 ci
              by_cases hle:ls.length=p+2
              · have hdr:ls.drop (p+1)=[ls[p+1]]:=by
                  rw [List.drop_eq_getElem_cons (by omega:p+1<ls.length),List.drop_eq_nil_of_le (by omega)]
                have hld:=hme hG4 (by omega:p+1<ls.length)
                rw [hdr] at f6
                have hat:Su.At G (Su.cfg [sw] b h w e [e0,e1,e2,e3,e4,e5]) lw hw ww v6:=by
                  have ha:=j2.mono hG4
                  exact ⟨ha.l,ha.h,ha.w,RowF.mono f5 (fun _ _ h=>h) k5⟩
                generalize ls[p+1]=y2 at *
                by_cases hy:y2=[]
                · subst hy
                  have f6:res = .ok (Su.cfg [sw] b h w e [e0,e1,e2,e3,e4,e5]) [[]] (p+2):=f6
                  subst f6
                  have ho:Su.out s=(Su.cfg [sw] b h w e [e0,e1,e2,e3,e4,e5],0,0):=ho
                  (repeat' (first|(with_reducible first|(refine hK _ _ ?_;clear hK K)|(refine hB ?_;clear hA hB A B)|(refine hK _ ?_;clear hK K))|((with_reducible first|refine z25 ?_|refine z26 ?_);intro K hK;(conv=>whnf))|(with_reducible refine z0 ?_)|((first|((with_reducible refine NV.i64 ?s ?_);case s=>omega)|((with_reducible refine NIf.no ?s ?_);case s=>(simp ;done))|with_reducible refine NIf.not_ ?_|((with_reducible refine NIf.decY ?s ?_);case s=>omega)|((with_reducible refine NN.eq (n:=p+1) ?side ?_);case side=>omega)|(with_reducible first|refine NN.lit ?_|refine NN.a2 ?_|refine NN.a5 ?_)|((with_reducible refine NH.mk ?s ?_);case s=>(and_intros<;>first|with_reducible rfl|((with_reducible refine gOnes ?_);rfl)|((with_reducible refine gLen ?_);rfl)|((with_reducible refine gKept ?_);exact rfl)|omega))|(with_reducible refine NLd.of (by with_reducible assumption) ?_))<;>(conv=>whnf))|(with_reducible refine st_ordSout ?_)|((with_reducible refine gNOK ?_);(first|(refine st_ordK1 rfl (by kernel_rfl) rfl ?_;intro K hK;(conv=>whnf))|refine st_ordK0 rfl (by kernel_rfl) ?_|refine st_ordKA rfl rfl (by kernel_rfl) (by intro h;cases h) ?_))|((with_reducible refine gNEK ?_);(first|(refine st_eachK ?_ ?_;(intro K hK;(conv=>whnf)))|exact st_eachK0))|((with_reducible refine gX ?_);(first|refine st_orderS [3] rfl rfl (by kernel_rfl) _ rfl ?_|(with_reducible first|refine z3 ?_|refine z4 ?_|refine z6 ?_|refine z7 ?_|refine z8 ?_)|((with_reducible refine z29 ?_);intro A B hA hB;(conv=>whnf))))|(with_reducible first|refine z1 ?_|refine z2 ?_|refine z10 ?_|refine z11 ?_|refine z19 ?_)|((with_reducible refine gR ?_);(refine z31 rfl ?_;intro K hK;(conv=>whnf)))))
                  all_goals first | (exfalso;omega) | (rw [ho];exact ⟨G,_,_,_,_,hF4.trans hG4,hat,rfl,MemFits.pre 1 rfl⟩)
                · have f6:res = .bad (p+2):=by
                    rw [f6]
                    exact if_neg fun h=>hy (by injection h)
                  subst f6
                  have ho:Su.out s=(Su.none40,p+2,10):=ho
                  (repeat' (first|(with_reducible first|(refine hK _ _ ?_;clear hK K)|(refine hA ?_;clear hA hB A B)|(refine hB ?_;clear hA hB A B)|(refine hK _ ?_;clear hK K))|((with_reducible first|refine z25 ?_|refine z26 ?_);intro K hK;(conv=>whnf))|(with_reducible refine z0 ?_)|((first|((with_reducible refine NV.i64 ?s ?_);case s=>omega)|((with_reducible refine NIf.yes ?s ?_);case s=>(simp [hy];done))|((with_reducible refine NIf.no ?s ?_);case s=>(simp [hy];done))|with_reducible refine NIf.not_ ?_|((with_reducible refine NIf.decY ?s ?_);case s=>omega)|((with_reducible refine NN.eq (n:=p+1) ?side ?_);case side=>omega)|(with_reducible first|refine NN.lit ?_|refine NN.a2 ?_|refine NN.a5 ?_)|((with_reducible refine NH.mk ?s ?_);case s=>(and_intros<;>first|with_reducible rfl|((with_reducible refine gOnes ?_);rfl)|((with_reducible refine gLen ?_);rfl)|((with_reducible refine gKept ?_);exact rfl)|omega))|(with_reducible refine NLd.of (by with_reducible assumption) ?_))<;>(conv=>whnf))|(with_reducible refine st_ordSout ?_)|((with_reducible refine gNOK ?_);(first|(refine st_ordK1 rfl (by kernel_rfl) rfl ?_;intro K hK;(conv=>whnf))|refine st_ordK0 rfl (by kernel_rfl) ?_|refine st_ordKA rfl rfl (by kernel_rfl) (by intro h;cases h) ?_))|((with_reducible refine gNEK ?_);(first|(refine st_eachK ?_ ?_;(intro K hK;(conv=>whnf)))|exact st_eachK0))|((with_reducible refine gX ?_);(first|refine st_orderS [3] rfl rfl (by kernel_rfl) _ rfl ?_|(with_reducible first|refine z3 ?_|refine z4 ?_|refine z7 ?_|refine z8 ?_)|((with_reducible refine z29 ?_);intro A B hA hB;(conv=>whnf))))|(with_reducible first|refine z1 ?_|refine z2 ?_|refine z10 ?_|refine z11 ?_|refine z12 ?_|refine z19 ?_)|((with_reducible refine gR ?_);(refine z31 rfl ?_;intro K hK;(conv=>whnf)))))
                  all_goals first | (exfalso;omega) | exact hz _ _ _ _ (hF4.trans hG4) ho rfl (MemFits.pre 1 rfl)
              · have f6:res = .bad (p+2):=by
                  rw [f6]
                  refine if_neg fun h=>hle ?_
                  have:=congrArg List.length h
                  rw [List.length_drop] at this
                  simp only [List.length_cons,List.length_nil] at this
                  omega
                subst f6
                have ho:Su.out s=(Su.none40,p+2,10):=ho
                (repeat' (first|(with_reducible first|(refine hK _ _ ?_;clear hK K)|(refine hA ?_;clear hA hB A B)|(refine hB ?_;clear hA hB A B)|(refine hK _ ?_;clear hK K))|((with_reducible first|refine z25 ?_|refine z26 ?_);intro K hK;(conv=>whnf))|(with_reducible refine z0 ?_)|((first|((with_reducible refine NV.i64 ?s ?_);case s=>omega)|((with_reducible refine NIf.yes ?s ?_);case s=>(simp ;done))|((with_reducible refine NIf.no ?s ?_);case s=>(simp ;done))|with_reducible refine NIf.not_ ?_|((with_reducible refine NIf.decN ?s ?_);case s=>omega)|(with_reducible first|refine NN.lit ?_|refine NN.a2 ?_|refine NN.a5 ?_)|((with_reducible refine NH.mk ?s ?_);case s=>(and_intros<;>first|with_reducible rfl|((with_reducible refine gOnes ?_);rfl)|((with_reducible refine gLen ?_);rfl)|((with_reducible refine gKept ?_);exact rfl)|omega)))<;>(conv=>whnf))|(with_reducible refine st_ordSout ?_)|((with_reducible refine gNOK ?_);(first|(refine st_ordK1 rfl (by kernel_rfl) rfl ?_;intro K hK;(conv=>whnf))|refine st_ordK0 rfl (by kernel_rfl) ?_|refine st_ordKA rfl rfl (by kernel_rfl) (by intro h;cases h) ?_))|((with_reducible refine gNEK ?_);(first|(refine st_eachK ?_ ?_;(intro K hK;(conv=>whnf)))|exact st_eachK0))|((with_reducible refine gX ?_);(first|refine st_orderS [3] rfl rfl (by kernel_rfl) _ rfl ?_|(with_reducible first|refine z3 ?_|refine z4 ?_|refine z7 ?_|refine z8 ?_)|((with_reducible refine z29 ?_);intro A B hA hB;(conv=>whnf))))|(with_reducible first|refine z1 ?_|refine z2 ?_|refine z10 ?_|refine z11 ?_|refine z12 ?_|refine z19 ?_)|((with_reducible refine gR ?_);(refine z31 rfl ?_;intro K hK;(conv=>whnf)))))
                all_goals first | (exfalso;omega) | exact hz _ _ _ _ (hF4.trans hG4) ho rfl (MemFits.pre 1 rfl)
end Go.Proofs.YtgphhbadnjfbjaaDoor
