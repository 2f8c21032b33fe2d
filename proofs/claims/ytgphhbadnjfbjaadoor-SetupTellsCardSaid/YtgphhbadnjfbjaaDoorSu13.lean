import Derived.Test.YtgphhbadnjfbjaaDoorSuR
import Derived.Test.YtgphhbadnjfbjaaDoorSu6
import Derived.Test.YtgphhbadnjfbjaaDoorSxF
namespace Go.Proofs.YtgphhbadnjfbjaaDoor
open Go.Sx
set_option maxRecDepth 20000
set_option linter.unusedSimpArgs false
set_option linter.unusedVariables false
set_option maxHeartbeats 4000000
set_option linter.unusedVariables false
namespace Su
def ex:Cfg:=⟨2,[],[],[[4607182418800017408]],[0, -4],0,0,0,0,0,1⟩
def exT:L:=[115,119,105,116,99,104,101,115,32,50,10,119,101,105,103,104,116,115,32,51,102,102,48,48,48,48,48,48,48,48,48,48,48,48,48,10,115,116,97,114,116,115,32,48,32,45,52,10,114,97,116,101,32,48,10,114,111,111,109,32,48,10,119,105,100,101,32,48,10,108,101,97,100,32,48,10,109,97,114,103,105,110,32,48,10,114,101,116,114,121,32,49,10]
theorem ex_text:text ex=exT:=by decide +kernel
theorem ex_clean:Clean ex:=by
  refine ⟨?_,?_,?_,by decide +kernel,?_,?_⟩
  all_goals (simp only [inB];decide +kernel)
theorem ex_short:Short ex:=⟨by decide +kernel,by decide +kernel,by decide +kernel,by decide +kernel,by decide +kernel⟩
theorem At.mono {G G':Heap} (h:G.le G') {c:Cfg} {lv hv wv sv:Value} (k:At G c lv hv wv sv):At G' c lv hv wv sv:=by
  obtain ⟨h1,h2,⟨ps,e,h3,h4⟩,h5⟩:=k
  exact ⟨RowF.mono h (fun _ _ h=>h) h1,RowF.mono h (fun _ _ h=>h) h2,⟨ps,e,RowF.mono h (fun _ _ h=>h) h3,fun p hp=>RowF.mono h (fun _ _ h=>h) (h4 p hp)⟩,RowF.mono h (fun _ _ h=>h) h5⟩
end Su
theorem awake40_text (F:Heap) (hT:TabF F) (b1 b2 b3:Nat) :
    NCall Tryd.prog 10 [.agg [.int .i64 2,.raw (.slice none 0 0),.raw (.slice none 0 0),.sl 2 (.slice (some ⟨b2,0,none⟩) 1 1) 1,.sl 3 (.slice (some ⟨b3,0,none⟩) 2 2) 2,.int .i64 0,.int .i64 0,.int .i64 0,.int .i64 0,.int .i64 0,.int .i64 1]]
      [hpB F,⟨⟨b1,0,none⟩,[.int .u64 4607182418800017408],.row (.slice (some ⟨b1,0,none⟩) 1 1) 43 1 1⟩,⟨⟨b2,0,none⟩,[.sl 1 (.slice (some ⟨b1,0,none⟩) 1 1) 1],.row (.slice (some ⟨b2,0,none⟩) 1 1) 42 1 1⟩,⟨⟨b3,0,none⟩,[.int .i64 0,.int .i64 (-4)],.row (.slice (some ⟨b3,0,none⟩) 2 2) 3 1 2⟩]
      fun r m=>∃ G,F.le G∧Su.At G Su.ex (.slice none 0 0) (.slice none 0 0) (.slice (some ⟨b2,0,none⟩) 1 1) (.slice (some ⟨b3,0,none⟩) 2 2)∧r = .str Su.exT∧m=[hpB G,hpB noHeap,hpB noHeap,hpB noHeap]:=by
  have hok:∀ (b n:Nat),SlOk (.slice (some ⟨b,0,none⟩) n n) n:=fun b n=>⟨_,_,rfl,Nat.le_refl _,fun h=>by cases h⟩
  let l:List OwnR:=[⟨.slice (some ⟨b1,0,none⟩) 1 1,[.int .u64 4607182418800017408],43,1,1⟩,⟨.slice (some ⟨b2,0,none⟩) 1 1,[.sl 1 (.slice (some ⟨b1,0,none⟩) 1 1) 1],42,1,1⟩,⟨.slice (some ⟨b3,0,none⟩) 2 2,[.int .i64 0,.int .i64 (-4)],3,1,2⟩]
  have r1:Su.Hexs (addLs F l) (.slice (some ⟨b1,0,none⟩) 1 1) [4607182418800017408]:=addLs.row (List.mem_cons_self ..) (hok _ _) rfl (fun _ _=>rfl)
  have r2:RowF (addLs F l) 1 (fun x us=>us=Su.wtV x) (.slice (some ⟨b2,0,none⟩) 1 1) [([4607182418800017408],.slice (some ⟨b1,0,none⟩) 1 1)]:=addLs.row (List.mem_cons_of_mem _ (List.mem_cons_self ..)) (hok _ _) rfl (fun _ _=>rfl)
  have r3:Su.Ints (addLs F l) (.slice (some ⟨b3,0,none⟩) 2 2) [0, -4]:=addLs.row (List.mem_cons_of_mem _ (List.mem_cons_of_mem _ (List.mem_cons_self ..))) (hok _ _) rfl (fun _ _=>rfl)
  have hat:Su.At (addLs F l) Su.ex (.slice none 0 0) (.slice none 0 0) (.slice (some ⟨b2,0,none⟩) 1 1) (.slice (some ⟨b3,0,none⟩) 2 2):=⟨RowF.nil,RowF.nil,⟨_,rfl,r2,fun p hp=>by rw [List.mem_singleton.1 hp];exact r1⟩,r3⟩
  have c:=text40_c (addLs F l) (hT.mono addLs.old) Su.ex _ _ _ _ hat Su.ex_clean.wide (by rw [Su.ex_text];decide)
  rw [Su.ex_text] at c
  refine (NCall.pre (args:=[.agg [.int .i64 2,.raw (.slice none 0 0),.raw (.slice none 0 0),.sl 2 (.slice (some ⟨b2,0,none⟩) 1 1) 1,.sl 3 (.slice (some ⟨b3,0,none⟩) 2 2) 2,.int .i64 0,.int .i64 0,.int .i64 0,.int .i64 0,.int .i64 0,.int .i64 1]]) c rfl (MemFits.frzL (m:=[]) l)).fits fun r m' hr=>?_
  obtain ⟨rfl,rfl⟩:=hr
  exact ⟨_,_,rfl,((MemFits.noHeap _).trans ((MemFits.noHeap _).trans (MemFits.noHeap _))).trans (MemFits.pick [3,0,1,2] (by decide) rfl),addLs F l,addLs.old,hat,rfl,rfl⟩
theorem awake40_c (F:Heap) (hT:TabF F) (hE:ErrF F):NCall Tryd.prog 7 [] [hpB F] fun r m=>r = .bool true∧m=[hpB F]:=by
  refine NCall.fits (K:=fun r m=>r = .bool true∧∃ F',F.le F'∧MemFits m [hpB F']) ?_ fun r m' ⟨h1,F',h2,h3⟩=>⟨r,_,rfl,h3.trans (MemFits.less h2 []),h1,rfl⟩
  have cp:=fun G (h:F.le G)=>parse40_c G (hT.mono h) (hE.mono h) Su.exT (by decide)
  have ho:Su.out Su.exT=(Su.ex,0,0):=by rw [← Su.ex_text];exact Su.out_back _ Su.ex_clean
  rw [ho] at cp
  have cs:=fun G lv hv wv sv lw hw ww sw hc hd=>same40_c G Su.ex Su.ex lv hv wv sv lw hw ww sw hc hd Su.ex_short Su.ex_short
  rw [decide_eq_true rfl] at cs
  have mo:=fun {G G':Heap} (h:G.le G') {a b c d} (k:Su.At G Su.ex a b c d)=>k.mono h
  refine ncall_of Tryd.func7 rfl (by decide) ?_
  (repeat' (first|(with_reducible first|(refine hK _ _ ?_;clear hK K)|(refine hK _ ?_;clear hK K))|((with_reducible first|refine z25 ?_|refine z26 ?_);intro K hK;(conv=>whnf))|(with_reducible refine z0 ?_)|((first|((with_reducible refine NIf.yes ?s ?_);case s=>(simp ;done))|((with_reducible refine NIf.yes ?s ?_);case s=>rfl)|((with_reducible refine NH.mk ?s ?_);case s=>(and_intros<;>first|with_reducible rfl|((with_reducible refine gOnes ?_);rfl)|((with_reducible refine gLen ?_);rfl)|omega))|((with_reducible refine NCall.isF 10 ?_);refine NCall.subw [0,1,2,3] _ _ (awake40_text F hT _ _ _) rfl (by decide) rfl ?_;rintro _ _ ⟨G,hle,hat,rfl,rfl⟩;refine ⟨Nat.le_of_ble_eq_true rfl,_,rfl,?_⟩)|((with_reducible refine NCall.isF 8 ?_);refine NCall.subw [0] _ _ (cp G hle) rfl (by decide) rfl ?_;rintro _ _ ⟨G2,lv,hv,wv,sv,hle2,hat2,rfl,rfl⟩;refine ⟨Nat.le_of_ble_eq_true rfl,_,rfl,?_⟩)|((with_reducible refine NCall.isF 12 ?_);refine NCall.subE [0] (cs G2 _ _ _ _ _ _ _ _ (mo hle2 hat) hat2) rfl (by decide) rfl rfl ?_))<;>(conv=>whnf))|(with_reducible first|refine z3 ?_|refine z4 ?_|refine z8 ?_|refine z1 ?_|refine z2 ?_)|((with_reducible refine gR ?_);(refine z31 rfl ?_;intro K hK;(conv=>whnf)))|((with_reducible refine gF ?_);(refine z33 rfl ?_;intro K hK;(conv=>whnf)))|((intro _;skip)<;>(conv=>whnf))))
  all_goals exact ⟨rfl,G2,hle.trans hle2,MemFits.pre 1 rfl⟩
end Go.Proofs.YtgphhbadnjfbjaaDoor
