import Derived.Test.YtgphhbadnjfbjaaDoorSu25
import Derived.Test.YtgphhbadnjfbjaaDoorSu5
namespace Go.Proofs.YtgphhbadnjfbjaaDoor
open Go.Sx
set_option maxRecDepth 20000
set_option linter.unusedSimpArgs false
set_option linter.unusedVariables false
set_option maxHeartbeats 8000000
set_option linter.unusedVariables false
namespace Su
def lists3 (ls:List L) (n:Nat):M (List Lk × List Hs × List (List Nat)):=bind (lnks ls n) fun b ls n=>bind (hsts ls n) fun c ls n=>bind (wgts ls n) fun d ls n=>.ok (b,c,d) ls n
theorem ints_eq {w:L} {mo:Option Nat} {ls:List L} {i:Nat} (hi:i<ls.length):ints w mo (ls.drop i)=if (cut w (ls.drop i)).isSome=true then (match intR ls[i] mo with
    | none=>.bad
    | some xs=>.ok xs (ls.drop (i+1))) else .no:=by
  by_cases h:i+1<ls.length
  · unfold ints
    rw [cut_drop h]
    by_cases hh:(sp 32 (ls[i]'(by omega))).head?=some w
    · rw [if_pos hh]
      unfold intR
      dsimp only
      cases e:all num (sp 32 ls[i]).tail with
      | none =>
        dsimp only
        split<;>rfl
      | some xs =>
        have hl:=all_take num _ _ e
        dsimp only
        rw [← hl]
        by_cases hq:Option.all (fun m=>decide (xs.length=m)) mo=true
        · rw [if_pos hq,if_pos hq];rfl
        · rw [if_neg hq,if_neg hq];rfl
    · rw [if_neg hh];rfl
  · unfold ints
    rw [cut_short (by omega)];rfl
theorem sets_eq {ls:List L} {i:Nat} (hi:i<ls.length):sets (ls.drop i)=if (cut wWeights (ls.drop i)).isSome=true then (match all hex (sp 32 ls[i]).tail with
    | none=>.bad
    | some xs=>.ok xs (ls.drop (i+1))) else .no:=by
  by_cases h:i+1<ls.length
  · unfold sets
    rw [cut_drop h]
    by_cases hh:(sp 32 (ls[i]'(by omega))).head?=some wWeights
    · rw [if_pos hh]
      dsimp only
      cases e:all hex (sp 32 ls[i]).tail with
      | none=>rfl
      | some xs=>rfl
    · rw [if_neg hh];rfl
  · unfold sets
    rw [cut_short (by omega)];rfl
theorem many_at {α β:Type} {one:List L→I α} {f:α→β} {ls:List L} {i k:Nat} {acc:List β} {n:Nat} (hi:i<ls.length) (hk:(ls.drop i).length≤k):∃ k',k=k'+1∧(ls.drop (i+1)).length≤k'∧many one f k acc (ls.drop i) n=match one (ls.drop i) with
    | .no=>.ok acc (ls.drop i) n
    | .bad=>.bad n
    | .ok x r=>many one f k' (acc++[f x]) r (n+1):=by
  rw [List.length_drop] at hk
  obtain ⟨j,rfl⟩:∃ j,k=j+1:=⟨k - 1,by omega⟩
  exact ⟨j,rfl,by rw [List.length_drop];omega,pend_ask⟩
theorem intR_len {s:L} {m:Nat} {xs:List Int} (h:intR s (some m)=some xs):xs.length=m:=by
  unfold intR at h
  split at h
  · cases h
  · split at h
    · rename_i hm
      cases h
      exact of_decide_eq_true hm
    · cases h
theorem cut_in {w:L} {ls:List L} {i:Nat} (h:(cut w (ls.drop i)).isSome=true):i+1<ls.length:=by
  refine Classical.byContradiction fun hn=>?_
  rw [cut_short (by omega)] at h
  cases h
end Su
theorem reflists40_c (F:Heap) (v:Value) (ls:List (List UInt8)) (hv:Su.strs F v ls) (hl:ls.length≤1000001) (hl1:1<ls.length) (hx:∀ x∈ls,x.length≤1000000) (sw:Int) :
    NCall Tryd.prog 20 [.hs v ls.length,.agg [.int .i64 sw,.raw (.slice none 0 0),.raw (.slice none 0 0),.raw (.slice none 0 0),.raw (.slice none 0 0),.int .i64 0,.int .i64 0,.int .i64 0,.int .i64 0,.int .i64 0,.int .i64 0]] [hpB F] fun r m=>∃ (G:Heap) (c:Su.Cfg) (lw hw ww:Value) (i:Nat) (ok:Bool),F.le G∧Su.At G c lw hw ww (.slice none 0 0)∧(ok=true→∃ b h w,Su.lists3 (ls.drop 1) 2 = .ok (b,h,w) (ls.drop i) (i+1)∧i<ls.length∧c=⟨sw,b,h,w,[],0,0,0,0,0,0⟩)∧(ok=false→Su.lists3 (ls.drop 1) 2 = .bad (i+1))∧i≤1000001∧r = .tup [.agg (Su.cs c lw hw ww (.slice none 0 0)),.int .i64 i,.bool ok]∧m=[hpB G]:=by
  refine Go.Sx.NCall.know (K:=fun r m'=>∃ (G:Heap) (u w y:Value) (acc:List Su.Lk) (hc:List Su.Hs) (ps:List (List Nat × Value)) (i:Nat) (ok:Bool),F.le G∧(∀ p∈ps,Su.Hexs G p.2 p.1)∧(ok=true→Su.lists3 (ls.drop 1) 2 = .ok (acc,hc,ps.map (·.1)) (ls.drop i) (i+1)∧i<ls.length)∧(ok=false→Su.lists3 (ls.drop 1) 2 = .bad (i+1))∧i≤1000001∧r.den=(AV.tup [.agg (Su.cs ⟨sw,acc,hc,ps.map (·.1),[],0,0,0,0,0,0⟩ u w y (.slice none 0 0)),.int .i64 i,.bool ok]).den∧MemFits m' [hpB G,⟨addrOf u,acc.flatMap Su.lkC,.row u 68 6 acc.length⟩,⟨addrOf w,hc.flatMap Su.hsC,.row w 70 2 hc.length⟩,⟨addrOf y,ps.flatMap Su.wtC,.row y 42 1 ps.length⟩]) ?_ fun r m' ⟨G,u,w,y,acc,hc,ps,i,ok,h1,h2,h3,h4,h5,h6,h7⟩ ⟨w0,hw0⟩=>?_
  rotate_left
  · have hm:=(h7 w0 hw0).1
    have ku:=(hm.row (List.mem_cons_of_mem _ (List.mem_cons_self ..))).1
    have kw:=(hm.row (List.mem_cons_of_mem _ (List.mem_cons_of_mem _ (List.mem_cons_self ..)))).1
    have ky:=(hm.row (List.mem_cons_of_mem _ (List.mem_cons_of_mem _ (List.mem_cons_of_mem _ (List.mem_cons_self ..))))).1
    have r1:=rowF_new (F:=G) (sz:=6) (enc:=Su.lkV) ku (Su.flat_den (C:=Su.lkC) (V:=Su.lkV) (fun _=>rfl) acc) (fun x _=>rfl)
    have r2:=rowF_new (F:=addF G (addrOf u) (denL (acc.flatMap Su.lkC))) (sz:=2) (enc:=Su.hsV) kw (Su.flat_den (C:=Su.hsC) (V:=Su.hsV) (fun _=>rfl) hc) (fun x _=>rfl)
    have r3:=rowF_new (F:=addF (addF G (addrOf u) (denL (acc.flatMap Su.lkC))) (addrOf w) (denL (hc.flatMap Su.hsC))) (sz:=1) (enc:=Su.wtV) ky (Su.flat_den (C:=Su.wtC) (V:=Su.wtV) (fun _=>rfl) ps) (fun x _=>rfl)
    have l1:G.le (addF (addF (addF G (addrOf u) (denL (acc.flatMap Su.lkC))) (addrOf w) (denL (hc.flatMap Su.hsC))) (addrOf y) (denL (ps.flatMap Su.wtC))):=addF.old.trans (addF.old.trans addF.old)
    refine ⟨_,_,h6.symm,h7.trans ((MemFits.freeze (m:=[⟨addrOf w,hc.flatMap Su.hsC,.row w 70 2 hc.length⟩,⟨addrOf y,ps.flatMap Su.wtC,.row y 42 1 ps.length⟩])).trans ((MemFits.freeze (m:=[⟨addrOf y,ps.flatMap Su.wtC,.row y 42 1 ps.length⟩])).trans (MemFits.freeze (m:=[])))),_,⟨sw,acc,hc,ps.map (·.1),[],0,0,0,0,0,0⟩,u,w,y,i,ok,h1.trans l1,⟨?_,?_,?_,RowF.nil⟩,fun h=>⟨acc,hc,ps.map (·.1),(h3 h).1,(h3 h).2,rfl⟩,h4,h5,rfl,rfl⟩
    · exact RowF.mono (addF.old.trans addF.old) (fun _ _ h=>h) r1
    · exact RowF.mono addF.old (fun _ _ h=>h) r2
    · exact ⟨ps,rfl,r3,fun p hp=>RowF.mono l1 (fun _ _ h=>h) (h2 p hp)⟩
  have hok:=hv.ok
  have e3:Su.lists3 (ls.drop 1) 2=Su.bind (Su.lnks (ls.drop 1) 2) fun b ls n=>Su.bind (Su.hsts ls n) fun c ls n=>Su.bind (Su.wgts ls n) fun d ls n=>.ok (b,c,d) ls n:=rfl
  generalize Su.lists3 (ls.drop 1) 2=res at *
  have cW:=fun G (h:F.le G) i (hi:i<ls.length) w=>refwhole40_c G v ls (RowF.mono h (fun _ _ h=>h) hv) (by omega) hx i (by omega) w
  have cI6:=fun G (s:List UInt8) (h:s.length≤1000000)=>refints40_c G s h 6 (some 6) (.inr ⟨by decide,by decide,rfl⟩)
  have hme:∀ {G i} (h:F.le G) (hi:i<ls.length),G.c ((addrOf v).add i) (.string ⟨ls[i].toArray⟩):=fun h hi=>RowF.get1 (f0:=fun x:List UInt8=>.string ⟨x.toArray⟩) (RowF.mono h (fun _ _ h=>h) hv) hi
  generalize hK1:(fun b ls n=>Su.bind (Su.hsts ls n) fun c ls n=>Su.bind (Su.wgts ls n) fun d ls n=>(.ok (b,c,d) ls n:Su.M (List Su.Lk × List Su.Hs × List (List Nat))))=K1 at e3
  unfold Su.lnks at e3
  refine ncall_of Tryd.func20 rfl (by decide) ?_
  (repeat' (first|(with_reducible first|(refine hK _ _ ?_;clear hK K)|(refine hK _ ?_;clear hK K))|((with_reducible refine z25 ?_);intro K hK;(conv=>whnf))|(with_reducible first|refine z0 ?_|refine z3 ?_|refine z4 ?_|refine z5 ?_|refine z1 ?_|refine z2 ?_)|((with_reducible refine gF ?_);(refine z33 rfl ?_;intro K hK;(conv=>whnf)))|((intro _;skip)<;>(conv=>whnf))))
  rename_i b3 b4
  refine st_auto (α:=Heap × Nat × List Su.Lk × Value × Nat) (fun (G,i,acc,u,k)=>F.le G∧1≤i∧i<ls.length∧acc.length≤i∧(ls.drop i).length≤k∧res=Su.bind (Su.many (Su.ints Su.wLink (some 6)) Su.link k acc (ls.drop i) (i+1)) K1)
    (fun (G,i,acc,u,k)=>[.keep,.keep,.keep,.keep,.keep,.set (.int .i64 0),.set (.bool false),.set (.int .i64 i),.drop,.drop,.keep,.keep,.keep,.keep,.drop,.drop,.drop,.drop,.drop,.drop,.drop,.drop,.drop,.drop,.drop,.drop,.drop,.drop,.drop,.drop,.drop,.drop,.drop,.drop,.drop,.drop,.drop,.drop,.drop,.drop,.drop,.drop,.drop,.drop,.drop,.drop,.drop,.drop,.drop,.drop,.drop,.drop,.drop,.drop,.drop,.drop,.drop,.keep,.keep,.keep,.keep,.keep,.keep,.keep,.keep,.keep,.keep,.keep,.keep,.keep,.keep,.keep,.keep,.keep,.keep,.keep,.keep,.keep,.keep,.keep,.keep,.keep,.keep,.keep,.keep,.keep,.keep,.keep,.keep,.keep,.keep,.keep,.keep,.keep,.keep,.keep,.keep,.keep,.keep,.keep,.keep,.keep,.keep,.keep,.keep,.keep,.keep,.keep,.keep,.keep,.keep,.keep,.keep])
    (fun (G,i,acc,u,k)=>[.set (hpB G),.set ⟨⟨b3,0,none⟩,[.int .i64 sw,.sl 3 u acc.length,.raw (.slice none 0 0),.raw (.slice none 0 0),.raw (.slice none 0 0),.int .i64 0,.int .i64 0,.int .i64 0,.int .i64 0,.int .i64 0,.int .i64 0],.var 29⟩,.keep,.set ⟨addrOf u,acc.flatMap Su.lkC,.row u 68 6 acc.length⟩])
    (fun (G,i,acc,u,k)=>ls.length - i) (F,1,[],.slice none 0 0,(ls.drop 1).length) ⟨F.le_refl,Nat.le_refl _,hl1,Nat.zero_le _,Nat.le_refl _,e3⟩ ?_ ?_ ?_
  · repeat (first|exact FitsSl.nil|refine FitsSl.any ?_|refine FitsSl.cons (Fit1.int (by first | rfl | omega)) ?_|refine FitsSl.cons (Fit1.bool rfl) ?_|refine FitsSl.cons (Fit1.same (by intro h;cases h) (by with_reducible rfl)) ?_)
  · exact MemFits.trans (MemFits.nilRow _ _ _) (MemFits.congr rfl)
  (intro ⟨G,i,acc,u,k⟩ ⟨y1,y2,y3,y4,y5,y6⟩;intro K hK;(conv=>whnf);refine hK _ _ ?_;clear hK K)
  dsimp only at y1 y2 y3 y4 y5 y6 ⊢
  have cw:=cW G y1 i y3 Su.wLink
  obtain ⟨k',hk0,hk1,hk2⟩:=Su.many_at (one:=Su.ints Su.wLink (some 6)) (f:=Su.link) (acc:=acc) (n:=i+1) y3 y5
  rw [hk2,Su.ints_eq y3] at y6
  cases hc:(Su.cut Su.wLink (ls.drop i)).isSome with
  | true =>
    have hlt:=Su.cut_in hc
    rw [hc] at cw
    unfold Su.wLink at cw
    rw [hc,if_pos rfl] at y6
    have e0:=fun {G:Heap} (h:F.le G)=>hme h y3
    have ci:=fun G=>cI6 G ls[i] (hx _ (List.getElem_mem y3))
    have cw:=cw.mono fun r m h=>show r = .bool true∧∃ G2,G.le G2∧G2.c ((addrOf v).add i) (.string ⟨ls[i].toArray⟩)∧m=[hpB G2] from by
      obtain ⟨h1,G2,h2,h3⟩:=h
      exact ⟨h1,G2,h2,e0 (y1.trans h2),h3⟩
    cases hq:Su.intR ls[i] (some 6) with
    | none =>
      rw [hq] at ci y6
      have y6:res = .bad (i+1):=y6
      have ci:=fun G=>(ci G).mono fun r m h=>show ∃ G' v' n,G.le G'∧r = .tup [.hs v' n,.bool false]∧m=[hpB G'] from by
        obtain ⟨G',v',xs,ok,h1,h2,h3,h4,h5,h6⟩:=h
        cases ok with
        | true=>cases h3 rfl
        | false=>exact ⟨G',v',_,h1,h5,h6⟩
      generalize ls[i]=x at *
      (repeat' (first|(with_reducible first|(refine hK _ _ ?_;clear hK K)|(refine hA ?_;clear hA hB A B)|(refine hK _ ?_;clear hK K))|((with_reducible refine z25 ?_);intro K hK;(conv=>whnf))|(with_reducible refine z0 ?_)|((first|with_reducible refine NIf.not_ ?_|((with_reducible refine NIf.yes ?s ?_);case s=>rfl)|((with_reducible refine NIf.no ?s ?_);case s=>rfl)|(with_reducible first|refine NN.cast ?_|refine NN.a2 ?_)|((with_reducible refine NH.mk ?s ?_);case s=>(and_intros<;>first|with_reducible rfl|((with_reducible refine gOnes ?_);rfl)|((with_reducible refine gLen ?_);rfl)|omega))|((with_reducible refine NCall.isF 19 ?_);refine NCall.subw [0] _ _ (cw) rfl (by decide) rfl ?_;rintro _ _ ⟨rfl,G2,hG2,hm2,rfl⟩;refine ⟨Nat.le_of_ble_eq_true rfl,_,rfl,?_⟩)|((with_reducible refine NCall.isF 18 ?_);refine NCall.subw [0] _ _ (ci G2) rfl (by decide) rfl ?_;rintro _ _ ⟨G3,v3,n3,i1,rfl,rfl⟩;refine ⟨Nat.le_of_ble_eq_true rfl,_,rfl,?_⟩)|(with_reducible refine NLd.of (by with_reducible assumption) ?_))<;>(conv=>whnf))|(with_reducible first|refine z3 ?_|refine z4 ?_|refine z5 ?_|refine z6 ?_|refine z8 ?_)|((with_reducible refine z29 ?_);intro A B hA hB;(conv=>whnf))|(with_reducible first|refine z1 ?_|refine z2 ?_|refine z12 ?_|refine z13 ?_|refine z20 ?_)|((with_reducible refine gR ?_);(refine z31 rfl ?_;intro K hK;(conv=>whnf)))))
      all_goals exact ⟨G3,u,.slice none 0 0,.slice none 0 0,acc,[],[],i,false,(y1.trans hG2).trans i1,fun p hp=>(by cases hp),fun h=>(by cases h),fun _=>y6,by omega,rfl,(MemFits.pick [0,3] (by decide) rfl).trans ((MemFits.nilRow [hpB G3,⟨addrOf u,acc.flatMap Su.lkC,.row u 68 6 acc.length⟩] 70 2).trans ((MemFits.nilRow ([hpB G3,⟨addrOf u,acc.flatMap Su.lkC,.row u 68 6 acc.length⟩]++[⟨⟨0,0,none⟩,[],.row (.slice none 0 0) 70 2 0⟩]) 42 1).trans (MemFits.congr rfl)))⟩
    | some xs =>
      obtain ⟨a0,a1,a2,a3,a4,a5,rfl⟩:=Su.six (Su.intR_len hq)
      rw [hq] at ci y6
      have y6:res=Su.bind (Su.many (Su.ints Su.wLink (some 6)) Su.link k' (acc++[⟨a0,a1,a2,a3,a4,a5⟩]) (ls.drop (i+1)) (i+1+1)) K1:=y6
      have ci:=fun G=>(ci G).mono fun r m h=>show ∃ G' v',G.le G'∧(SlOk v' 6∧G'.c ((addrOf v').add 0) (.int .i64 a0)∧G'.c ((addrOf v').add 1) (.int .i64 a1)∧G'.c ((addrOf v').add 2) (.int .i64 a2)∧G'.c ((addrOf v').add 3) (.int .i64 a3)∧G'.c ((addrOf v').add 4) (.int .i64 a4)∧G'.c ((addrOf v').add 5) (.int .i64 a5))∧r = .tup [.hs v' 6,.bool true]∧m=[hpB G'] from by
        obtain ⟨G',v',xs,ok,h1,h2,h3,h4,h5,h6⟩:=h
        cases ok with
        | false=>cases h4 rfl
        | true =>
          obtain rfl:=Option.some.inj (h3 rfl)
          exact ⟨G',v',h1,⟨h2.ok,Su.int_at h2 (i:=0) rfl,Su.int_at h2 (i:=1) rfl,Su.int_at h2 (i:=2) rfl,Su.int_at h2 (i:=3) rfl,Su.int_at h2 (i:=4) rfl,Su.int_at h2 (i:=5) rfl⟩,h5,h6⟩
      have hal:(acc.flatMap Su.lkC).length=acc.length*6:=Su.flat_len (C:=Su.lkC) (k:=6) (fun _=>rfl) acc
      generalize ls[i]=x at *
      (repeat' (first|(with_reducible first|(refine hK _ _ ?_;clear hK K)|(refine hA ?_;clear hA hB A B)|(refine hB ?_;clear hA hB A B)|(refine hK _ ?_;clear hK K))|((with_reducible refine z25 ?_);intro K hK;(conv=>whnf))|(with_reducible refine z0 ?_)|((first|((with_reducible refine NV.i64 ?s ?_);case s=>omega)|with_reducible refine NIf.not_ ?_|((with_reducible refine NIf.yes ?s ?_);case s=>rfl)|(with_reducible first|refine NN.lit ?_|refine NN.cast ?_|refine NN.a2 ?_|refine NN.a5 ?_)|((with_reducible refine NH.mk ?s ?_);case s=>(and_intros<;>first|with_reducible rfl|((with_reducible refine gOnes ?_);rfl)|((with_reducible refine gLen ?_);rfl)|((with_reducible refine gKept ?_);exact rfl)|omega))|((with_reducible refine NCall.isF 19 ?_);refine NCall.subw [0] _ _ (cw) rfl (by decide) rfl ?_;rintro _ _ ⟨rfl,G2,hG2,hm2,rfl⟩;refine ⟨Nat.le_of_ble_eq_true rfl,_,rfl,?_⟩)|((with_reducible refine NCall.isF 18 ?_);refine NCall.subw [0] _ _ (ci G2) rfl (by decide) rfl ?_;rintro _ _ ⟨G3,v3,i1,⟨i3,f0,f1,f2,f3,f4,f5⟩,rfl,rfl⟩;refine ⟨Nat.le_of_ble_eq_true rfl,_,rfl,?_⟩)|(with_reducible refine NLd.of (by with_reducible assumption) ?_))<;>(conv=>whnf))|(with_reducible refine st_ordSout ?_)|((with_reducible refine gNOK ?_);(first|(refine st_ordK1 rfl (by kernel_rfl) rfl ?_;intro K hK;(conv=>whnf))|refine st_ordK0 rfl (by kernel_rfl) ?_|refine st_ordKA rfl rfl (by kernel_rfl) (by intro h;cases h) ?_))|((with_reducible refine gNEK ?_);(first|(refine st_eachK ?_ ?_;(intro K hK;(conv=>whnf)))|exact st_eachK0))|((with_reducible refine gX ?_);(first|refine st_orderS [1,3] rfl rfl (by kernel_rfl) _ rfl ?_|(with_reducible first|refine z3 ?_|refine z4 ?_|refine z5 ?_|refine z6 ?_)|((with_reducible refine z29 ?_);intro A B hA hB;(conv=>whnf))))|(with_reducible first|refine z1 ?_|refine z2 ?_|refine z9 ?_)|((intro _;skip)<;>(conv=>whnf))))
      all_goals
        rename_i b6 w2
        refine st_round (G3,i+1,acc++[⟨a0,a1,a2,a3,a4,a5⟩],w2,k') ⟨(y1.trans hG2).trans i1,by dsimp only;omega,hlt,by dsimp only;rw [List.length_append];show _+1≤_;omega,hk1,y6⟩ (by dsimp only;omega) ?_ ?_
        · dsimp only
          repeat (first|exact FitsSl.nil|refine FitsSl.any ?_|refine FitsSl.cons (Fit1.int (by first | rfl | omega)) ?_|refine FitsSl.cons (Fit1.bool rfl) ?_|refine FitsSl.cons (Fit1.same (by intro h;cases h) (by with_reducible rfl)) ?_)
        · dsimp only
          rw [List.flatMap_append,List.length_append]
          exact MemFits.pre 4 rfl
  | false =>
    rw [hc] at cw
    unfold Su.wLink at cw
    rw [hc,if_neg (by decide)] at y6
    have y6:res=K1 acc (ls.drop i) (i+1):=y6
    subst hK1
    have y6:res=Su.bind (Su.hsts (ls.drop i) (i+1)) fun c ls n=>Su.bind (Su.wgts ls n) fun d ls n=>.ok (acc,c,d) ls n:=y6
    clear hk0 hk1 hk2 e3 y5 cI6
    (repeat' (first|(with_reducible first|(refine hK _ _ ?_;clear hK K)|(refine hB ?_;clear hA hB A B))|((with_reducible refine z25 ?_);intro K hK;(conv=>whnf))|(with_reducible refine z0 ?_)|((first|((with_reducible refine NIf.no ?s ?_);case s=>rfl)|((with_reducible refine NCall.isF 19 ?_);refine NCall.subw [0] _ _ (cw) rfl (by decide) rfl ?_;rintro _ _ ⟨rfl,G2,hG2,rfl⟩;refine ⟨Nat.le_of_ble_eq_true rfl,_,rfl,?_⟩))<;>(conv=>whnf))|(with_reducible first|refine z3 ?_|refine z4 ?_|refine z5 ?_|refine z7 ?_)|((with_reducible refine z29 ?_);intro A B hA hB;(conv=>whnf))|(with_reducible first|refine z1 ?_|refine z2 ?_|refine z10 ?_|refine z11 ?_|refine z19 ?_)))
    generalize hK2:(fun c ls n=>Su.bind (Su.wgts ls n) fun d ls n=>(.ok (acc,c,d) ls n:Su.M (List Su.Lk × List Su.Hs × List (List Nat))))=K2 at y6
    have cI2:=fun G (s:List UInt8) (h:s.length≤1000000)=>refints40_c G s h 2 (some 2) (.inr ⟨by decide,by decide,rfl⟩)
    unfold Su.hsts at y6
    have g1:=y1.trans hG2
    refine st_auto (α:=Heap × Nat × List Su.Hs × Value × Nat) (fun (G,i,hc,w,k)=>F.le G∧1≤i∧i<ls.length∧hc.length≤i∧(ls.drop i).length≤k∧res=Su.bind (Su.many (Su.ints Su.wHost (some 2)) Su.host k hc (ls.drop i) (i+1)) K2)
      (fun (G,i,hc,w,k)=>[.keep,.keep,.keep,.keep,.keep,.set (.int .i64 0),.set (.bool false),.set (.int .i64 i),.keep,.keep,.drop,.drop,.keep,.keep,.keep,.keep,.keep,.keep,.keep,.keep,.keep,.keep,.keep,.keep,.keep,.keep,.keep,.keep,.keep,.keep,.keep,.keep,.keep,.keep,.keep,.keep,.keep,.keep,.keep,.keep,.keep,.keep,.keep,.keep,.keep,.keep,.keep,.keep,.keep,.keep,.keep,.keep,.keep,.keep,.keep,.keep,.keep,.drop,.drop,.drop,.drop,.drop,.drop,.drop,.drop,.drop,.drop,.drop,.drop,.drop,.drop,.drop,.drop,.drop,.drop,.drop,.drop,.drop,.drop,.drop,.drop,.drop,.drop,.drop,.drop,.drop,.drop,.drop,.keep,.keep,.keep,.keep,.keep,.keep,.keep,.keep,.keep,.keep,.keep,.keep,.keep,.keep,.keep,.keep,.keep,.keep,.keep,.keep,.keep,.keep,.keep,.keep,.keep])
      (fun (G,i,hc,w,k)=>[.set (hpB G),.set ⟨⟨b3,0,none⟩,[.int .i64 sw,.sl 3 u acc.length,.sl 4 w hc.length,.raw (.slice none 0 0),.raw (.slice none 0 0),.int .i64 0,.int .i64 0,.int .i64 0,.int .i64 0,.int .i64 0,.int .i64 0],.var 29⟩,.keep,.keep,.set ⟨addrOf w,hc.flatMap Su.hsC,.row w 70 2 hc.length⟩])
      (fun (G,i,hc,w,k)=>ls.length - i) (G2,i,[],.slice none 0 0,(ls.drop i).length) ⟨g1,y2,y3,Nat.zero_le _,Nat.le_refl _,y6⟩ ?_ ?_ ?_
    · repeat (first|exact FitsSl.nil|refine FitsSl.any ?_|refine FitsSl.cons (Fit1.int (by first | rfl | omega)) ?_|refine FitsSl.cons (Fit1.bool rfl) ?_|refine FitsSl.cons (Fit1.same (by intro h;cases h) (by with_reducible rfl)) ?_)
    · exact MemFits.trans (MemFits.nilRow _ _ _) (MemFits.congr rfl)
    clear hc cw y1 y2 y3 y6 hG2 g1
    have hai:=y4
    clear y4
    (intro ⟨G,i,hc,w,k⟩ ⟨y1,y2,y3,y4,y5,y6⟩;intro K hK;(conv=>whnf);refine hK _ _ ?_;clear hK K)
    dsimp only at y1 y2 y3 y4 y5 y6 ⊢
    have cw:=cW G y1 i y3 Su.wHost
    obtain ⟨k',hk0,hk1,hk2⟩:=Su.many_at (one:=Su.ints Su.wHost (some 2)) (f:=Su.host) (acc:=hc) (n:=i+1) y3 y5
    rw [hk2,Su.ints_eq y3] at y6
    cases hc':(Su.cut Su.wHost (ls.drop i)).isSome with
    | true =>
      have hlt:=Su.cut_in hc'
      rw [hc'] at cw
      unfold Su.wHost at cw
      rw [hc',if_pos rfl] at y6
      have e0:=fun {G:Heap} (h:F.le G)=>hme h y3
      have ci:=fun G=>cI2 G ls[i] (hx _ (List.getElem_mem y3))
      have cw:=cw.mono fun r m h=>show r = .bool true∧∃ G2,G.le G2∧G2.c ((addrOf v).add i) (.string ⟨ls[i].toArray⟩)∧m=[hpB G2] from by
        obtain ⟨h1,G2,h2,h3⟩:=h
        exact ⟨h1,G2,h2,e0 (y1.trans h2),h3⟩
      cases hq:Su.intR ls[i] (some 2) with
      | none =>
        rw [hq] at ci y6
        have y6:res = .bad (i+1):=y6
        have ci:=fun G=>(ci G).mono fun r m h=>show ∃ G' v' n,G.le G'∧r = .tup [.hs v' n,.bool false]∧m=[hpB G'] from by
          obtain ⟨G',v',xs,ok,h1,h2,h3,h4,h5,h6⟩:=h
          cases ok with
          | true=>cases h3 rfl
          | false=>exact ⟨G',v',_,h1,h5,h6⟩
        generalize ls[i]=x at *
        (repeat' (first|(with_reducible first|(refine hK _ _ ?_;clear hK K)|(refine hA ?_;clear hA hB A B)|(refine hK _ ?_;clear hK K))|((with_reducible refine z25 ?_);intro K hK;(conv=>whnf))|(with_reducible refine z0 ?_)|((first|with_reducible refine NIf.not_ ?_|((with_reducible refine NIf.yes ?s ?_);case s=>rfl)|((with_reducible refine NIf.no ?s ?_);case s=>rfl)|(with_reducible first|refine NN.cast ?_|refine NN.a2 ?_)|((with_reducible refine NH.mk ?s ?_);case s=>(and_intros<;>first|with_reducible rfl|((with_reducible refine gOnes ?_);rfl)|((with_reducible refine gLen ?_);rfl)|omega))|((with_reducible refine NCall.isF 19 ?_);refine NCall.subw [0] _ _ (cw) rfl (by decide) rfl ?_;rintro _ _ ⟨rfl,G2,hG2,hm2,rfl⟩;refine ⟨Nat.le_of_ble_eq_true rfl,_,rfl,?_⟩)|((with_reducible refine NCall.isF 18 ?_);refine NCall.subw [0] _ _ (ci G2) rfl (by decide) rfl ?_;rintro _ _ ⟨G3,v3,n3,i1,rfl,rfl⟩;refine ⟨Nat.le_of_ble_eq_true rfl,_,rfl,?_⟩)|(with_reducible refine NLd.of (by with_reducible assumption) ?_))<;>(conv=>whnf))|(with_reducible first|refine z3 ?_|refine z4 ?_|refine z5 ?_|refine z6 ?_|refine z8 ?_)|((with_reducible refine z29 ?_);intro A B hA hB;(conv=>whnf))|(with_reducible first|refine z1 ?_|refine z2 ?_|refine z12 ?_|refine z13 ?_|refine z20 ?_)|((with_reducible refine gR ?_);(refine z31 rfl ?_;intro K hK;(conv=>whnf)))))
        all_goals exact ⟨G3,u,w,.slice none 0 0,acc,hc,[],i,false,(y1.trans hG2).trans i1,fun p hp=>(by cases hp),fun h=>(by cases h),fun _=>y6,by omega,rfl,(MemFits.pick [0,3,4] (by decide) rfl).trans ((MemFits.nilRow [hpB G3,⟨addrOf u,acc.flatMap Su.lkC,.row u 68 6 acc.length⟩,⟨addrOf w,hc.flatMap Su.hsC,.row w 70 2 hc.length⟩] 42 1).trans (MemFits.congr rfl))⟩
      | some xs =>
        obtain ⟨a0,a1,rfl⟩:=Su.two (Su.intR_len hq)
        rw [hq] at ci y6
        have y6:res=Su.bind (Su.many (Su.ints Su.wHost (some 2)) Su.host k' (hc++[⟨a0,a1⟩]) (ls.drop (i+1)) (i+1+1)) K2:=y6
        have ci:=fun G=>(ci G).mono fun r m h=>show ∃ G' v',G.le G'∧(SlOk v' 2∧G'.c ((addrOf v').add 0) (.int .i64 a0)∧G'.c ((addrOf v').add 1) (.int .i64 a1))∧r = .tup [.hs v' 2,.bool true]∧m=[hpB G'] from by
          obtain ⟨G',v',xs,ok,h1,h2,h3,h4,h5,h6⟩:=h
          cases ok with
          | false=>cases h4 rfl
          | true =>
            obtain rfl:=Option.some.inj (h3 rfl)
            exact ⟨G',v',h1,⟨h2.ok,Su.int_at h2 (i:=0) rfl,Su.int_at h2 (i:=1) rfl⟩,h5,h6⟩
        have hal:(acc.flatMap Su.lkC).length=acc.length*6:=Su.flat_len (C:=Su.lkC) (k:=6) (fun _=>rfl) acc
        have hbl:(hc.flatMap Su.hsC).length=hc.length*2:=Su.flat_len (C:=Su.hsC) (k:=2) (fun _=>rfl) hc
        generalize ls[i]=x at *
        (repeat' (first|(with_reducible first|(refine hK _ _ ?_;clear hK K)|(refine hA ?_;clear hA hB A B)|(refine hB ?_;clear hA hB A B)|(refine hK _ ?_;clear hK K))|((with_reducible refine z25 ?_);intro K hK;(conv=>whnf))|(with_reducible refine z0 ?_)|((first|((with_reducible refine NV.i64 ?s ?_);case s=>omega)|with_reducible refine NIf.not_ ?_|((with_reducible refine NIf.yes ?s ?_);case s=>rfl)|(with_reducible first|refine NN.lit ?_|refine NN.cast ?_|refine NN.a2 ?_|refine NN.a5 ?_)|((with_reducible refine NH.mk ?s ?_);case s=>(and_intros<;>first|with_reducible rfl|((with_reducible refine gOnes ?_);rfl)|((with_reducible refine gLen ?_);rfl)|((with_reducible refine gKept ?_);exact rfl)|omega))|((with_reducible refine NCall.isF 19 ?_);refine NCall.subw [0] _ _ (cw) rfl (by decide) rfl ?_;rintro _ _ ⟨rfl,G2,hG2,hm2,rfl⟩;refine ⟨Nat.le_of_ble_eq_true rfl,_,rfl,?_⟩)|((with_reducible refine NCall.isF 18 ?_);refine NCall.subw [0] _ _ (ci G2) rfl (by decide) rfl ?_;rintro _ _ ⟨G3,v3,i1,⟨i3,f0,f1⟩,rfl,rfl⟩;refine ⟨Nat.le_of_ble_eq_true rfl,_,rfl,?_⟩)|(with_reducible refine NLd.of (by with_reducible assumption) ?_))<;>(conv=>whnf))|(with_reducible refine st_ordSout ?_)|((with_reducible refine gNOK ?_);(first|(refine st_ordK1 rfl (by kernel_rfl) rfl ?_;intro K hK;(conv=>whnf))|refine st_ordK0 rfl (by kernel_rfl) ?_|refine st_ordKA rfl rfl (by kernel_rfl) (by intro h;cases h) ?_))|((with_reducible refine gNEK ?_);(first|(refine st_eachK ?_ ?_;(intro K hK;(conv=>whnf)))|exact st_eachK0))|((with_reducible refine gX ?_);(first|refine st_orderS [1,4] rfl rfl (by kernel_rfl) _ rfl ?_|(with_reducible first|refine z3 ?_|refine z4 ?_|refine z5 ?_|refine z6 ?_)|((with_reducible refine z29 ?_);intro A B hA hB;(conv=>whnf))))|(with_reducible first|refine z1 ?_|refine z2 ?_|refine z9 ?_)|((intro _;skip)<;>(conv=>whnf))))
        all_goals
          rename_i b6 w2
          refine st_round (G3,i+1,hc++[⟨a0,a1⟩],w2,k') ⟨(y1.trans hG2).trans i1,by dsimp only;omega,hlt,by dsimp only;rw [List.length_append];show _+1≤_;omega,hk1,y6⟩ (by dsimp only;omega) ?_ ?_
          · dsimp only
            repeat (first|exact FitsSl.nil|refine FitsSl.any ?_|refine FitsSl.cons (Fit1.int (by first | rfl | omega)) ?_|refine FitsSl.cons (Fit1.bool rfl) ?_|refine FitsSl.cons (Fit1.same (by intro h;cases h) (by with_reducible rfl)) ?_)
          · dsimp only
            rw [List.flatMap_append,List.length_append]
            exact MemFits.pre 5 rfl
    | false =>
      rw [hc'] at cw
      unfold Su.wHost at cw
      rw [hc',if_neg (by decide)] at y6
      have y6:res=K2 hc (ls.drop i) (i+1):=y6
      subst hK2
      have y6:res=Su.bind (Su.wgts (ls.drop i) (i+1)) fun d ls n=>.ok (acc,hc,d) ls n:=y6
      clear hk0 hk1 hk2 y5 cI2
      (repeat' (first|(with_reducible first|(refine hK _ _ ?_;clear hK K)|(refine hB ?_;clear hA hB A B))|((with_reducible refine z25 ?_);intro K hK;(conv=>whnf))|(with_reducible refine z0 ?_)|((first|((with_reducible refine NIf.no ?s ?_);case s=>rfl)|((with_reducible refine NCall.isF 19 ?_);refine NCall.subw [0] _ _ (cw) rfl (by decide) rfl ?_;rintro _ _ ⟨rfl,G2,hG2,rfl⟩;refine ⟨Nat.le_of_ble_eq_true rfl,_,rfl,?_⟩))<;>(conv=>whnf))|(with_reducible first|refine z3 ?_|refine z4 ?_|refine z5 ?_|refine z7 ?_)|((with_reducible refine z29 ?_);intro A B hA hB;(conv=>whnf))|(with_reducible first|refine z1 ?_|refine z2 ?_|refine z10 ?_|refine z11 ?_|refine z19 ?_)))
      generalize hK3:(fun d ls n=>(.ok (acc,hc,d) ls n:Su.M (List Su.Lk × List Su.Hs × List (List Nat))))=K3 at y6
      unfold Su.wgts at y6
      have g1:=y1.trans hG2
      refine st_auto (α:=Heap × Nat × List (List Nat × Value) × Value × Nat) (fun (G,i,wc,y,k)=>F.le G∧1≤i∧i<ls.length∧wc.length≤i∧(ls.drop i).length≤k∧res=Su.bind (Su.many Su.sets id k (wc.map (·.1)) (ls.drop i) (i+1)) K3∧∀ p∈wc,Su.Hexs G p.2 p.1)
        (fun (G,i,wc,y,k)=>[.keep,.keep,.keep,.keep,.keep,.set (.int .i64 0),.set (.bool false),.set (.int .i64 i),.keep,.keep,.keep,.keep,.drop,.drop,.keep,.keep,.keep,.keep,.keep,.keep,.keep,.keep,.keep,.keep,.keep,.keep,.keep,.keep,.keep,.keep,.keep,.keep,.keep,.keep,.keep,.keep,.keep,.keep,.keep,.keep,.keep,.keep,.keep,.keep,.keep,.keep,.keep,.keep,.keep,.keep,.keep,.keep,.keep,.keep,.keep,.keep,.keep,.keep,.keep,.keep,.keep,.keep,.keep,.keep,.keep,.keep,.keep,.keep,.keep,.keep,.keep,.keep,.keep,.keep,.keep,.keep,.keep,.keep,.keep,.keep,.keep,.keep,.keep,.keep,.keep,.keep,.keep,.keep,.drop,.drop,.drop,.drop,.drop,.drop,.drop,.drop,.drop,.drop,.drop,.drop,.drop,.drop,.drop,.drop,.drop,.drop,.drop,.drop,.drop,.drop,.drop,.keep,.keep])
        (fun (G,i,wc,y,k)=>[.set (hpB G),.set ⟨⟨b3,0,none⟩,[.int .i64 sw,.sl 3 u acc.length,.sl 4 w hc.length,.sl 5 y wc.length,.raw (.slice none 0 0),.int .i64 0,.int .i64 0,.int .i64 0,.int .i64 0,.int .i64 0,.int .i64 0],.var 29⟩,.keep,.keep,.keep,.set ⟨addrOf y,wc.flatMap Su.wtC,.row y 42 1 wc.length⟩])
        (fun (G,i,wc,y,k)=>ls.length - i) (G2,i,[],.slice none 0 0,(ls.drop i).length) ⟨g1,y2,y3,Nat.zero_le _,Nat.le_refl _,y6,fun p hp=>by cases hp⟩ ?_ ?_ ?_
      · repeat (first|exact FitsSl.nil|refine FitsSl.any ?_|refine FitsSl.cons (Fit1.int (by first | rfl | omega)) ?_|refine FitsSl.cons (Fit1.bool rfl) ?_|refine FitsSl.cons (Fit1.same (by intro h;cases h) (by with_reducible rfl)) ?_)
      · exact MemFits.trans (MemFits.nilRow _ _ _) (MemFits.congr rfl)
      clear hc' cw y1 y2 y3 y6 hG2 g1
      have hbi:=y4
      clear y4
      (intro ⟨G,i,wc,y,k⟩ ⟨y1,y2,y3,y4,y5,y6,y7⟩;intro K hK;(conv=>whnf);refine hK _ _ ?_;clear hK K)
      dsimp only at y1 y2 y3 y4 y5 y6 y7 ⊢
      have cw:=cW G y1 i y3 Su.wWeights
      obtain ⟨k',hk0,hk1,hk2⟩:=Su.many_at (one:=Su.sets) (f:=id) (acc:=wc.map (·.1)) (n:=i+1) y3 y5
      rw [hk2,Su.sets_eq y3] at y6
      cases hc':(Su.cut Su.wWeights (ls.drop i)).isSome with
      | true =>
        have hlt:=Su.cut_in hc'
        rw [hc'] at cw
        unfold Su.wWeights at cw
        rw [hc',if_pos rfl] at y6
        have e0:=fun {G:Heap} (h:F.le G)=>hme h y3
        have ci:=fun G=>refsets40_c G ls[i] (hx _ (List.getElem_mem y3))
        have cw:=cw.mono fun r m h=>show r = .bool true∧∃ G2,G.le G2∧G2.c ((addrOf v).add i) (.string ⟨ls[i].toArray⟩)∧m=[hpB G2] from by
          obtain ⟨h1,G2,h2,h3⟩:=h
          exact ⟨h1,G2,h2,e0 (y1.trans h2),h3⟩
        cases hq:Su.all Su.hex (Su.sp 32 ls[i]).tail with
        | none =>
          rw [hq] at ci y6
          have y6:res = .bad (i+1):=y6
          have ci:=fun G=>(ci G).mono fun r m h=>show ∃ G' v' n,G.le G'∧r = .tup [.hs v' n,.bool false]∧m=[hpB G'] from by
            obtain ⟨G',v',xs,ok,h1,h2,h3,h4,h5,h6⟩:=h
            cases ok with
            | true=>cases h3 rfl
            | false=>exact ⟨G',v',_,h1,h5,h6⟩
          generalize ls[i]=x at *
          (repeat' (first|(with_reducible first|(refine hK _ _ ?_;clear hK K)|(refine hA ?_;clear hA hB A B)|(refine hK _ ?_;clear hK K))|((with_reducible refine z25 ?_);intro K hK;(conv=>whnf))|(with_reducible refine z0 ?_)|((first|with_reducible refine NIf.not_ ?_|((with_reducible refine NIf.yes ?s ?_);case s=>rfl)|((with_reducible refine NIf.no ?s ?_);case s=>rfl)|(with_reducible first|refine NN.cast ?_|refine NN.a2 ?_)|((with_reducible refine NH.mk ?s ?_);case s=>(and_intros<;>first|with_reducible rfl|((with_reducible refine gOnes ?_);rfl)|((with_reducible refine gLen ?_);rfl)|omega))|((with_reducible refine NCall.isF 19 ?_);refine NCall.subw [0] _ _ (cw) rfl (by decide) rfl ?_;rintro _ _ ⟨rfl,G2,hG2,hm2,rfl⟩;refine ⟨Nat.le_of_ble_eq_true rfl,_,rfl,?_⟩)|((with_reducible refine NCall.isF 45 ?_);refine NCall.subw [0] _ _ (ci G2) rfl (by decide) rfl ?_;rintro _ _ ⟨G3,v3,n3,i1,rfl,rfl⟩;refine ⟨Nat.le_of_ble_eq_true rfl,_,rfl,?_⟩)|(with_reducible refine NLd.of (by with_reducible assumption) ?_))<;>(conv=>whnf))|(with_reducible first|refine z3 ?_|refine z4 ?_|refine z5 ?_|refine z6 ?_|refine z8 ?_)|((with_reducible refine z29 ?_);intro A B hA hB;(conv=>whnf))|(with_reducible first|refine z1 ?_|refine z2 ?_|refine z12 ?_|refine z13 ?_|refine z20 ?_)|((with_reducible refine gR ?_);(refine z31 rfl ?_;intro K hK;(conv=>whnf)))))
          all_goals exact ⟨G3,u,w,y,acc,hc,wc,i,false,(y1.trans hG2).trans i1,fun p hp=>RowF.mono (hG2.trans i1) (fun _ _ h=>h) (y7 p hp),fun h=>(by cases h),fun _=>y6,by omega,rfl,MemFits.pick [0,3,4,5] (by decide) rfl⟩
        | some xs =>
          rw [hq] at ci y6
          have y6:res=Su.bind (Su.many Su.sets id k' (wc.map (·.1)++[xs]) (ls.drop (i+1)) (i+1+1)) K3:=y6
          have ci:=fun G=>(ci G).mono fun r m h=>show ∃ G' v',G.le G'∧(SlOk v' xs.length∧Su.Hexs G' v' xs)∧r = .tup [.hs v' xs.length,.bool true]∧m=[hpB G'] from by
            obtain ⟨G',v',ys,ok,h1,h2,h3,h4,h5,h6⟩:=h
            cases ok with
            | false=>cases h4 rfl
            | true =>
              obtain rfl:=Option.some.inj (h3 rfl)
              exact ⟨G',v',h1,⟨h2.ok,h2⟩,h5,h6⟩
          have hal:(acc.flatMap Su.lkC).length=acc.length*6:=Su.flat_len (C:=Su.lkC) (k:=6) (fun _=>rfl) acc
          have hbl:(hc.flatMap Su.hsC).length=hc.length*2:=Su.flat_len (C:=Su.hsC) (k:=2) (fun _=>rfl) hc
          have hcl:(wc.flatMap Su.wtC).length=wc.length*1:=Su.flat_len (C:=Su.wtC) (k:=1) (fun _=>rfl) wc
          generalize ls[i]=x at *
          (repeat' (first|(with_reducible first|(refine hK _ _ ?_;clear hK K)|(refine hA ?_;clear hA hB A B)|(refine hB ?_;clear hA hB A B))|((with_reducible refine z25 ?_);intro K hK;(conv=>whnf))|(with_reducible refine z0 ?_)|((first|((with_reducible refine NV.i64 ?s ?_);case s=>omega)|with_reducible refine NIf.not_ ?_|((with_reducible refine NIf.yes ?s ?_);case s=>rfl)|(with_reducible first|refine NN.cast ?_|refine NN.a2 ?_|refine NN.a5 ?_)|((with_reducible refine NH.mk ?s ?_);case s=>(and_intros<;>first|with_reducible rfl|((with_reducible refine gOnes ?_);rfl)|((with_reducible refine gLen ?_);rfl)|omega))|((with_reducible refine NCall.isF 19 ?_);refine NCall.subw [0] _ _ (cw) rfl (by decide) rfl ?_;rintro _ _ ⟨rfl,G2,hG2,hm2,rfl⟩;refine ⟨Nat.le_of_ble_eq_true rfl,_,rfl,?_⟩)|((with_reducible refine NCall.isF 45 ?_);refine NCall.subw [0] _ _ (ci G2) rfl (by decide) rfl ?_;rintro _ _ ⟨G3,v3,i1,⟨i3,f0⟩,rfl,rfl⟩;refine ⟨Nat.le_of_ble_eq_true rfl,_,rfl,?_⟩)|(with_reducible refine NLd.of (by with_reducible assumption) ?_))<;>(conv=>whnf))|(with_reducible first|refine z3 ?_|refine z4 ?_|refine z5 ?_|refine z6 ?_)|((with_reducible refine z29 ?_);intro A B hA hB;(conv=>whnf))|(with_reducible first|refine z1 ?_|refine z2 ?_|refine z9 ?_)|((intro _;skip)<;>(conv=>whnf))))
          all_goals
            rename_i b6 w2
            refine st_round (G3,i+1,wc++[(xs,v3)],w2,k') ⟨(y1.trans hG2).trans i1,by dsimp only;omega,hlt,by dsimp only;rw [List.length_append];show _+1≤_;omega,hk1,by dsimp only;rw [y6,List.map_append];rfl,fun p hp=>by
              rcases List.mem_append.1 hp with hp | hp
              · exact RowF.mono (hG2.trans i1) (fun _ _ h=>h) (y7 p hp)
              · rw [List.mem_singleton.1 hp];exact f0⟩ (by dsimp only;omega) ?_ ?_
            · dsimp only
              repeat (first|exact FitsSl.nil|refine FitsSl.any ?_|refine FitsSl.cons (Fit1.int (by first | rfl | omega)) ?_|refine FitsSl.cons (Fit1.bool rfl) ?_|refine FitsSl.cons (Fit1.same (by intro h;cases h) (by with_reducible rfl)) ?_)
            · dsimp only
              rw [List.flatMap_append,List.length_append]
              exact MemFits.pre 6 rfl
      | false =>
        rw [hc'] at cw
        unfold Su.wWeights at cw
        rw [hc',if_neg (by decide)] at y6
        have y6:res = .ok (acc,hc,wc.map (·.1)) (ls.drop i) (i+1):=by
          subst hK3
          exact y6
        clear hk0 hk1 hk2 y5
        (repeat' (first|(with_reducible first|(refine hK _ _ ?_;clear hK K)|(refine hB ?_;clear hA hB A B)|(refine hK _ ?_;clear hK K))|((with_reducible refine z25 ?_);intro K hK;(conv=>whnf))|(with_reducible refine z0 ?_)|((first|((with_reducible refine NIf.no ?s ?_);case s=>rfl)|((with_reducible refine NH.mk ?s ?_);case s=>(and_intros<;>first|with_reducible rfl|((with_reducible refine gOnes ?_);rfl)|((with_reducible refine gLen ?_);rfl)))|((with_reducible refine NCall.isF 19 ?_);refine NCall.subw [0] _ _ (cw) rfl (by decide) rfl ?_;rintro _ _ ⟨rfl,G2,hG2,rfl⟩;refine ⟨Nat.le_of_ble_eq_true rfl,_,rfl,?_⟩))<;>(conv=>whnf))|(with_reducible first|refine z3 ?_|refine z4 ?_|refine z7 ?_|refine z8 ?_)|((with_reducible refine z29 ?_);intro A B hA hB;(conv=>whnf))|(with_reducible first|refine z1 ?_|refine z2 ?_|refine z10 ?_|refine z11 ?_|refine z19 ?_)|((with_reducible refine gR ?_);(refine z31 rfl ?_;intro K hK;(conv=>whnf)))))
        all_goals exact ⟨G2,u,w,y,acc,hc,wc,i,true,y1.trans hG2,fun p hp=>RowF.mono hG2 (fun _ _ h=>h) (y7 p hp),fun _=>⟨y6,y3⟩,fun h=>(by cases h),by omega,rfl,MemFits.pick [0,3,4,5] (by decide) rfl⟩
end Go.Proofs.YtgphhbadnjfbjaaDoor
