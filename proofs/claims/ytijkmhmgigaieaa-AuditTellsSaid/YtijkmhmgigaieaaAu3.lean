import Derived.Test.YtijkmhmgigaieaaAu2
namespace Go.Proofs.Ytijkmhmgigaieaa
open Go.Sx
set_option maxRecDepth 20000
set_option linter.unusedSimpArgs false
set_option linter.unusedVariables false
set_option maxHeartbeats 4000000
set_option linter.unusedVariables false
set_option linter.unnecessarySimpa false
namespace Au
def gC (l:List G):List AV:=l.flatMap G.A
theorem gC_den (l:List G):denL (gC l)=l.flatMap G.V:=by
  induction l with
  | nil=>rfl
  | cons x l ih=>unfold gC at *;rw [List.flatMap_cons,List.flatMap_cons,denL_append,ih];rfl
theorem gC_next (l:List G) (g:G):gC (l++[g])=gC l++[.int .i64 g.u,.int .i64 g.f,.int .i64 g.t]:=by unfold gC;rw [List.flatMap_append];simp [G.A]
theorem ones_gC (l:List G):Go.Sx.ones (gC l)=true:=by
  induction l with
  | nil=>rfl
  | cons x l ih=>unfold gC at *;rw [List.flatMap_cons];simpa [G.A,Go.Sx.ones] using ih
abbrev GLays (F:Heap) (l:List G) (r:AV) (m:List Blk):Prop:=∃ F' v,F.le F'∧GRow F' v l∧r = .hs v l.length∧m=[hpB F']
theorem guards_know {f:FuncId} {args:List AV} {F:Heap} {t:TypeId} {m:List Blk} {l:List G} (h:NCall Try.prog f args m fun r m'=>∃ v,r.den=slOf v∧MemFits m' [hpB F,⟨addrOf v,gC l,.row v t 3 l.length⟩]) :
    NCall Try.prog f args m fun r m'=>GLays F l r m':=by
  refine Go.Sx.NCall.know h fun r m' ⟨u,hr,hm⟩ ⟨w,hw⟩=>?_
  have hok:=((hm w hw).1.row (List.mem_cons_of_mem _ (List.mem_cons_self ..))).1
  have hrow:=rowF_new (F:=F) (sz:=3) (enc:=G.V) hok (gC_den l) (fun x _=>rfl)
  exact ⟨.hs u l.length,_,hr.symm,hm.trans (MemFits.freeze (m:=[])),_,u,addF.old,hrow,rfl,rfl⟩
theorem tail_row {F:Heap} {v:Value} {l:List Tc.E} (hv:Tc.ERow F v l) {k:Nat} (hk:k≤l.length):Tc.ERow F (cutSl v 6 k l.length) (l.drop k):=by
  have h:=RowF.cut hv (lo:=k) (hi:=l.length) hk (Nat.le_refl _)
  rwa [List.take_of_length_le (by rw [List.length_drop];exact Nat.le_refl _)] at h
end Au
theorem end42_c (F:Heap) (v:Value) (l:List Tc.E) (hv:Tc.ERow F v l) (hl:l.length≤1000) (u y:Int):NCall Try.prog 29 [.hs v l.length,.int .i64 u,.int .i64 y] [hpB F] fun r m=>r = .int .i64 (Au.endOf l u y)∧m=[hpB F]:=by
  refine NCall.fits (K:=fun r m=>r = .int .i64 (Au.endOf l u y)∧MemFits m [hpB F]) ?_ fun r m' h=>⟨r,_,rfl,h.2,h.1,rfl⟩
  have hok:=hv.ok
  have ci:=fun b=>indexE_c F v l hv (by omega) u b
  refine ncall_of Try.func29 rfl (by decide) ?_
  rcases Au.idx_find (Au.ends u) l with ⟨h1,h2⟩ | ⟨k,x,h1,h2,h3⟩
  · have he:Au.endOf l u y=1125899906842624:=by unfold Au.endOf;rw [h2];rfl
    rw [he]
    generalize Au.idx (Au.ends u) l=q at *
    (repeat' (first|(with_reducible first|(refine hK _ _ ?_;clear hK K)|(refine hA ?_;clear hA hB A B)|(refine hK _ ?_;clear hK K))|((with_reducible refine z25 ?_);intro K hK;(conv=>whnf))|(with_reducible refine z0 ?_)|((first|((with_reducible refine NIf.decY ?s ?_);case s=>assumption)|((with_reducible refine NCall.isF 45 ?_);refine NCall.subE [0,1] (ci _) rfl (by decide) rfl rfl ?_))<;>(conv=>whnf))|(with_reducible first|refine z3 ?_|refine z4 ?_|refine z5 ?_|refine z8 ?_)|((with_reducible refine z29 ?_);intro A B hA hB;(conv=>whnf))|(with_reducible first|refine z1 ?_|refine z2 ?_|refine z12 ?_|refine z13 ?_)|((with_reducible refine gR ?_);(refine z31 rfl ?_;intro K hK;(conv=>whnf)))|((with_reducible refine gF ?_);(refine z33 rfl ?_;intro K hK;(conv=>whnf)))|((intro _;skip)<;>(conv=>whnf))))
    all_goals exact ⟨rfl,MemFits.pre 1 rfl⟩
  · have he:Au.endOf l u y=if x.kind=9 then y else x.real:=by unfold Au.endOf;rw [h3]
    rw [he]
    obtain ⟨c0,c1,c2,c3,c4,c5⟩:=hv.get h2
    have hk:=(List.getElem?_eq_some_iff.1 h2).1
    rw [h1] at ci
    by_cases hx:x.kind=9
    · rw [if_pos hx]
      (repeat' (first|(with_reducible first|(refine hK _ _ ?_;clear hK K)|(refine hA ?_;clear hA hB A B)|(refine hB ?_;clear hA hB A B)|(refine hK _ ?_;clear hK K))|((with_reducible refine z25 ?_);intro K hK;(conv=>whnf))|(with_reducible refine z0 ?_)|((first|((with_reducible refine NIf.decY ?s ?_);case s=>assumption)|((with_reducible refine NIf.decN ?s ?_);case s=>omega)|(with_reducible first|refine NN.cast ?_|refine NN.a6 ?_|refine NN.keep ?_)|((with_reducible refine NH.mk ?s ?_);case s=>(and_intros<;>omega))|((with_reducible refine NCall.isF 45 ?_);refine NCall.subE [0,1] (ci _) rfl (by decide) rfl rfl ?_)|(with_reducible refine NLd.of (by with_reducible assumption) ?_))<;>(conv=>whnf))|(with_reducible first|refine z3 ?_|refine z4 ?_|refine z5 ?_|refine z8 ?_)|((with_reducible refine z29 ?_);intro A B hA hB;(conv=>whnf))|(with_reducible first|refine z1 ?_|refine z2 ?_|refine z12 ?_|refine z13 ?_)|((with_reducible refine gR ?_);(refine z31 rfl ?_;intro K hK;(conv=>whnf)))|((with_reducible refine gF ?_);(refine z33 rfl ?_;intro K hK;(conv=>whnf)))|((intro _;skip)<;>(conv=>whnf))))
      all_goals exact ⟨rfl,MemFits.pre 1 rfl⟩
    · rw [if_neg hx]
      (repeat' (first|(with_reducible first|(refine hK _ _ ?_;clear hK K)|(refine hB ?_;clear hA hB A B)|(refine hK _ ?_;clear hK K))|((with_reducible refine z25 ?_);intro K hK;(conv=>whnf))|(with_reducible refine z0 ?_)|((first|((with_reducible refine NIf.decN ?s ?_);case s=>first|assumption|omega)|(with_reducible first|refine NN.cast ?_|refine NN.a6 ?_|refine NN.keep ?_)|((with_reducible refine NH.mk ?s ?_);case s=>(and_intros<;>omega))|((with_reducible refine NCall.isF 45 ?_);refine NCall.subE [0,1] (ci _) rfl (by decide) rfl rfl ?_)|(with_reducible refine NLd.of (by with_reducible assumption) ?_))<;>(conv=>whnf))|(with_reducible first|refine z3 ?_|refine z4 ?_|refine z5 ?_|refine z6 ?_|refine z8 ?_)|((with_reducible refine z29 ?_);intro A B hA hB;(conv=>whnf))|(with_reducible first|refine z1 ?_|refine z2 ?_|refine z9 ?_)|((with_reducible refine gR ?_);(refine z31 rfl ?_;intro K hK;(conv=>whnf)))|((with_reducible refine gF ?_);(refine z33 rfl ?_;intro K hK;(conv=>whnf)))|((intro _;skip)<;>(conv=>whnf))))
      all_goals exact ⟨rfl,MemFits.pre 1 rfl⟩
theorem guards42_c (F:Heap) (v:Value) (l:List Tc.E) (hv:Tc.ERow F v l) (hl:l.length≤1000):NCall Try.prog 12 [.hs v l.length] [hpB F] fun r m=>Au.GLays F (Au.guards l) r m:=by
  refine Au.guards_know (t:=45) ?_
  have hok:=hv.ok
  refine ncall_of Try.func12 rfl (by decide) ?_
  (repeat' (first|(with_reducible first|(refine hK _ _ ?_;clear hK K)|(refine hK _ ?_;clear hK K))|((with_reducible refine z25 ?_);intro K hK;(conv=>whnf))|(with_reducible refine z0 ?_)|(((with_reducible refine NH.mk ?s ?_);case s=>(and_intros<;>omega))<;>(conv=>whnf))|(with_reducible first|refine z3 ?_|refine z4 ?_|refine z5 ?_|refine z1 ?_|refine z2 ?_)|((with_reducible refine gF ?_);(refine z33 rfl ?_;intro K hK;(conv=>whnf)))))
  refine st_auto (α:=Value × Nat) (fun (w,i)=>i≤l.length) (fun (w,i)=>[.keep,.keep,.keep,.set (.sl 1 w (Au.gTo l i).length),.drop,.drop,.keep,.keep,.set (.int .i64 i),.drop,.drop,.drop,.drop,.drop,.drop,.drop,.drop,.drop,.drop,.drop,.drop,.drop,.drop,.drop,.drop,.drop,.drop,.drop,.drop,.drop,.drop,.drop,.drop,.drop,.keep])
    (fun (w,i)=>[.keep,.set ⟨addrOf w,Au.gC (Au.gTo l i),.row w 45 3 (Au.gTo l i).length⟩]) (fun (w,i)=>l.length - i) (.slice none 0 0,0) (Nat.zero_le _) ?_ (MemFits.nilRow _ 45 3) ?_
  · repeat (first|exact FitsSl.nil|refine FitsSl.any ?_|refine FitsSl.cons (Fit1.int (by first | rfl | omega)) ?_|refine FitsSl.cons (Fit1.same (by intro h;cases h) (by with_reducible rfl)) ?_|refine FitsSl.cons Fit1.nil_sl ?_)
  (intro ⟨w,i⟩ hi;intro K hK;(conv=>whnf);refine hK _ _ ?_;clear hK K)
  dsimp only at hi ⊢
  have hgl:=Au.gTo_len l i
  have hones:=Au.ones_gC (Au.gTo l i)
  by_cases hlt:i<l.length
  · have hx:l[i]?=some l[i]:=List.getElem?_eq_getElem hlt
    obtain ⟨c0,c1,c2,c3,c4,c5⟩:=hv.get hx
    have hnx:=Au.gTo_next l i
    have hga:Au.gAt l i=if l[i].kind=8 then [⟨l[i].u,l[i].x,Au.endOf (l.drop (i+1)) l[i].u l[i].y⟩] else []:=by unfold Au.gAt;rw [hx]
    have hdl:(l.drop (i+1)).length=l.length - (i+1):=List.length_drop
    have ce:=end42_c F _ _ (Au.tail_row hv (k:=i+1) (by omega)) (by omega) l[i].u l[i].y
    rw [hdl] at ce
    generalize Au.endOf (l.drop (i+1)) l[i].u l[i].y=en at *
    generalize l[i]=x at *
    by_cases hk:x.kind=8
    · rw [if_pos hk] at hga
      rw [hga] at hnx
      have hn2:=Au.gC_next (Au.gTo l i) ⟨x.u,x.x,en⟩
      have hnl:(Au.gTo l (i+1)).length=(Au.gTo l i).length+1:=by rw [hnx];simp
      rw [← hnx] at hn2
      (repeat' (first|(with_reducible first|(refine hK _ _ ?_;clear hK K)|(refine hA ?_;clear hA hB A B)|(refine hK _ ?_;clear hK K))|((with_reducible refine z25 ?_);intro K hK;(conv=>whnf))|(with_reducible refine z0 ?_)|((first|((with_reducible refine NV.i64 ?s ?_);case s=>omega)|((with_reducible refine NIf.decY ?s ?_);case s=>first|assumption|omega)|(with_reducible first|refine NN.cast ?_|refine NN.a5 ?_|refine NN.keep ?_)|((with_reducible refine NH.mk ?s ?_);case s=>(and_intros<;>first|with_reducible rfl|((with_reducible refine gOnes ?_);rfl)|((with_reducible refine gLen ?_);rfl)|((with_reducible refine gKept ?_);exact rfl)|omega|rfl))|((with_reducible refine NCall.isF 29 ?_);refine NCall.subE [0] (ce) rfl (by decide) rfl rfl ?_)|(with_reducible refine NLd.of (by with_reducible assumption) ?_))<;>(conv=>whnf))|(with_reducible refine st_ordSout ?_)|((with_reducible refine gNOK ?_);(first|(refine st_ordK1 rfl (by kernel_rfl) rfl ?_;intro K hK;(conv=>whnf))|refine st_ordK0 rfl (by kernel_rfl) ?_|refine st_ordKA rfl rfl (by kernel_rfl) (by intro h;cases h) ?_))|((with_reducible refine gNEK ?_);(first|(refine st_eachK ?_ ?_;(intro K hK;(conv=>whnf)))|exact st_eachK0))|((with_reducible refine gX ?_);(first|refine st_orderS [1] rfl rfl (by kernel_rfl) _ rfl ?_|(with_reducible first|refine z3 ?_|refine z4 ?_|refine z5 ?_|refine z6 ?_)|((with_reducible refine z29 ?_);intro A B hA hB;(conv=>whnf))))|(with_reducible first|refine z1 ?_|refine z2 ?_|refine z9 ?_)|((intro _;skip)<;>(conv=>whnf))))
      all_goals
        rename_i w2
        refine st_round (w2,i+1) hlt (by show l.length - (i+1)<l.length - i;omega) ?_ ?_
        · repeat (first|exact FitsSl.nil|refine FitsSl.any ?_|refine FitsSl.cons (Fit1.int (by first | rfl | omega)) ?_|refine FitsSl.cons (Fit1.same (by intro h;cases h) (by with_reducible rfl)) ?_|refine FitsSl.cons (Fit1.sl rfl) ?_)
        · show MemFits _ [hpB F,⟨addrOf w2,Au.gC (Au.gTo l (i+1)),.row w2 45 3 (Au.gTo l (i+1)).length⟩]
          rw [hn2,hnl]
          exact MemFits.pre 2 rfl
    · rw [if_neg hk] at hga
      rw [hga,List.append_nil] at hnx
      (repeat' (first|(with_reducible first|(refine hK _ _ ?_;clear hK K)|(refine hA ?_;clear hA hB A B)|(refine hB ?_;clear hA hB A B))|((with_reducible refine z25 ?_);intro K hK;(conv=>whnf))|(with_reducible refine z0 ?_)|((first|((with_reducible refine NV.i64 ?s ?_);case s=>omega)|((with_reducible refine NIf.no ?s ?_);case s=>simpa using hk)|((with_reducible refine NIf.decY ?s ?_);case s=>omega)|(with_reducible first|refine NN.cast ?_|refine NN.a5 ?_|refine NN.keep ?_)|((with_reducible refine NH.mk ?s ?_);case s=>(and_intros<;>first|with_reducible rfl|((with_reducible refine gOnes ?_);rfl)|((with_reducible refine gLen ?_);rfl)|omega))|(with_reducible refine NLd.of (by with_reducible assumption) ?_))<;>(conv=>whnf))|(with_reducible first|refine z3 ?_|refine z4 ?_|refine z5 ?_|refine z6 ?_)|((with_reducible refine z29 ?_);intro A B hA hB;(conv=>whnf))|(with_reducible first|refine z1 ?_|refine z2 ?_|refine z9 ?_)|((intro _;skip)<;>(conv=>whnf))))
      refine st_round (w,i+1) hlt (by show l.length - (i+1)<l.length - i;omega) ?_ ?_
      · repeat (first|exact FitsSl.nil|refine FitsSl.any ?_|refine FitsSl.cons (Fit1.int (by first | rfl | omega)) ?_|refine FitsSl.cons (Fit1.same (by intro h;cases h) (by with_reducible rfl)) ?_|refine FitsSl.cons (Fit1.sl rfl) ?_)
      · show MemFits _ [hpB F,⟨addrOf w,Au.gC (Au.gTo l (i+1)),.row w 45 3 (Au.gTo l (i+1)).length⟩]
        rw [hnx]
        exact MemFits.pre 2 rfl
  · have hii:i=l.length:=by omega
    subst hii
    (repeat' (first|(with_reducible first|(refine hK _ _ ?_;clear hK K)|(refine hB ?_;clear hA hB A B)|(refine hK _ ?_;clear hK K))|((with_reducible refine z25 ?_);intro K hK;(conv=>whnf))|(with_reducible refine z0 ?_)|(((with_reducible refine NIf.decN ?s ?_);case s=>omega)<;>(conv=>whnf))|(with_reducible first|refine z3 ?_|refine z4 ?_|refine z7 ?_|refine z8 ?_)|((with_reducible refine z29 ?_);intro A B hA hB;(conv=>whnf))|(with_reducible first|refine z1 ?_|refine z2 ?_|refine z10 ?_|refine z11 ?_|refine z19 ?_)|((with_reducible refine gR ?_);(refine z31 rfl ?_;intro K hK;(conv=>whnf)))))
    exact ⟨w,rfl,MemFits.eq rfl⟩
theorem guarded42_c (F:Heap) (v:Value) (l:List Tc.E) (hv:Tc.ERow F v l) (hl:l.length≤1000) (at_:Int):NCall Try.prog 13 [.hs v l.length,.int .i64 at_] [hpB F] fun r m=>r = .bool (Au.guarded l at_)∧m=[hpB F]:=by
  refine NCall.fits (K:=fun r m=>r = .bool (Au.guarded l at_)∧∃ F',F.le F'∧MemFits m [hpB F']) ?_ fun r m' ⟨h1,F',h2,h3⟩=>⟨r,_,rfl,h3.trans (MemFits.less h2 []),h1,rfl⟩
  have cg:=guards42_c F v l hv hl
  have hgl:=Au.gTo_len l l.length
  have hg0:(Au.guards l).length≤1000:=by unfold Au.guards;omega
  have cc:=fun G w b (h:Au.GRow G w (Au.guards l))=>containsG1_c G w (Au.guards l) h (by omega) at_ b
  refine ncall_of Try.func13 rfl (by decide) ?_
  (repeat' (first|(with_reducible first|(refine hK _ _ ?_;clear hK K)|(refine hK _ ?_;clear hK K))|((with_reducible refine z25 ?_);intro K hK;(conv=>whnf))|(with_reducible refine z0 ?_)|((first|((with_reducible refine NCall.isF 12 ?_);refine NCall.subw [0] _ _ (cg) rfl (by decide) rfl ?_;rintro _ _ ⟨G,w,hle,hw,rfl,rfl⟩;refine ⟨Nat.le_of_ble_eq_true rfl,_,rfl,?_⟩)|((with_reducible refine NCall.isF 30 ?_);refine NCall.subE [0,1] (cc G w _ hw) rfl (by decide) rfl rfl ?_))<;>(conv=>whnf))|(with_reducible first|refine z3 ?_|refine z4 ?_|refine z8 ?_|refine z1 ?_|refine z2 ?_)|((with_reducible refine gR ?_);(refine z31 rfl ?_;intro K hK;(conv=>whnf)))|((with_reducible refine gF ?_);(refine z33 rfl ?_;intro K hK;(conv=>whnf)))|((intro _;skip)<;>(conv=>whnf))))
  all_goals exact ⟨rfl,G,hle,MemFits.pre 1 rfl⟩
theorem inforce42_c (F:Heap) (v:Value) (l:List Tc.E) (hv:Tc.ERow F v l) (hl:l.length≤1000) (at_:Int):NCall Try.prog 14 [.hs v l.length,.int .i64 at_] [hpB F] fun r m=>r = .int .i64 (Au.inForce l at_)∧m=[hpB F]:=by
  refine NCall.fits (K:=fun r m=>r = .int .i64 (Au.inForce l at_)∧∃ F',F.le F'∧MemFits m [hpB F']) ?_ fun r m' ⟨h1,F',h2,h3⟩=>⟨r,_,rfl,h3.trans (MemFits.less h2 []),h1,rfl⟩
  have cg:=guards42_c F v l hv hl
  have hgl:=Au.gTo_len l l.length
  have hg0:(Au.guards l).length≤1000:=by unfold Au.guards;omega
  have cc:=fun G w b b2 e (h:Au.GRow G w (Au.guards l))=>containsG2_c G w (Au.guards l) h (by omega) at_ b b2 e
  unfold Au.inForce
  generalize Au.guards l=gs at *
  refine ncall_of Try.func14 rfl (by decide) ?_
  (repeat' (first|(with_reducible first|(refine hK _ _ ?_;clear hK K)|(refine hK _ ?_;clear hK K))|((with_reducible refine z25 ?_);intro K hK;(conv=>whnf))|(with_reducible refine z0 ?_)|(((with_reducible refine NCall.isF 12 ?_);refine NCall.subw [0] _ _ (cg) rfl (by decide) rfl ?_;rintro _ _ ⟨G,w,hle,hw,rfl,rfl⟩;refine ⟨Nat.le_of_ble_eq_true rfl,_,rfl,?_⟩)<;>(conv=>whnf))|(with_reducible first|refine z3 ?_|refine z4 ?_|refine z1 ?_|refine z2 ?_)|((with_reducible refine gF ?_);(refine z33 rfl ?_;intro K hK;(conv=>whnf)))|((intro _;skip)<;>(conv=>whnf))))
  have hv2:=Tc.erow_mono hle hv
  have hok:=hv2.ok
  have hok2:=hw.ok
  (repeat' (first|(with_reducible (refine hK _ _ ?_;clear hK K))|((with_reducible refine z25 ?_);intro K hK;(conv=>whnf))|(with_reducible refine z0 ?_)|(((with_reducible refine NH.mk ?s ?_);case s=>(and_intros<;>omega))<;>(conv=>whnf))|(with_reducible first|refine z5 ?_|refine z1 ?_|refine z2 ?_)))
  refine st_auto (α:=Nat) (fun i=>i≤l.length) (fun i=>[.keep,.keep,.keep,.keep,.keep,.keep,.set (.int .i64 ((l.take i).foldl (Au.fstep gs at_) 0)),.keep,.drop,.keep,.keep,.keep,.keep,.set (.int .i64 i),.drop,.drop,.drop,.drop,.drop,.drop,.drop,.drop,.drop,.drop,.drop,.drop,.drop,.drop,.keep]) (fun _=>[.keep,.keep]) (fun i=>l.length - i) 0 (Nat.zero_le _) ?_ (MemFits.eq rfl) ?_
  · repeat (first|exact FitsSl.nil|refine FitsSl.any ?_|refine FitsSl.cons (Fit1.int (by first | rfl | omega)) ?_|refine FitsSl.cons (Fit1.same (by intro h;cases h) (by with_reducible rfl)) ?_)
  (intro i hi;intro K hK;(conv=>whnf);refine hK _ _ ?_;clear hK K)
  by_cases hlt:i<l.length
  · have hx:l[i]?=some l[i]:=List.getElem?_eq_getElem hlt
    obtain ⟨c0,c1,c2,c3,c4,c5⟩:=hv2.get hx
    have hnx:(l.take (i+1)).foldl (Au.fstep gs at_) 0=Au.fstep gs at_ ((l.take i).foldl (Au.fstep gs at_) 0) l[i]:=by rw [List.take_add_one,hx,Option.toList_some,List.foldl_append];rfl
    generalize l[i]=x at *
    have c:=fun b b2=>cc G w b b2 x hw
    generalize (l.take i).foldl (Au.fstep gs at_) 0=o at *
    have hfs:Au.fstep gs at_ o x=if x.kind=9∧gs.any (Au.over at_ x.u)=true then x.x else o:=rfl
    rw [hfs] at hnx
    cases ha:gs.any (Au.over at_ x.u) with
    | true =>
      rw [ha] at c hnx
      by_cases hk:x.kind=9
      · rw [if_pos ⟨hk,rfl⟩] at hnx
        (repeat' (first|(with_reducible first|(refine hK _ _ ?_;clear hK K)|(refine hA ?_;clear hA hB A B))|((with_reducible first|refine z25 ?_|refine z26 ?_);intro K hK;(conv=>whnf))|(with_reducible refine z0 ?_)|((first|((with_reducible refine NV.i64 ?s ?_);case s=>omega)|((with_reducible refine NIf.decY ?s ?_);case s=>first|assumption|omega)|((with_reducible refine NIf.yes ?s ?_);case s=>rfl)|(with_reducible first|refine NN.cast ?_|refine NN.a5 ?_|refine NN.keep ?_)|((with_reducible refine NH.mk ?s ?_);case s=>(and_intros<;>first|with_reducible rfl|((with_reducible refine gOnes ?_);rfl)|((with_reducible refine gLen ?_);rfl)|omega))|((with_reducible refine NCall.isF 30 ?_);refine NCall.subE [0,2,1] (c _ _) rfl (by decide) rfl rfl ?_)|(with_reducible refine NLd.of (by with_reducible assumption) ?_))<;>(conv=>whnf))|(with_reducible first|refine z3 ?_|refine z4 ?_|refine z5 ?_|refine z6 ?_)|((with_reducible refine z29 ?_);intro A B hA hB;(conv=>whnf))|(with_reducible first|refine z1 ?_|refine z2 ?_|refine z9 ?_)|((intro _;skip)<;>(conv=>whnf))))
        all_goals refine st_round (i+1) hlt (by omega) ?_ (MemFits.pre 2 rfl)
        all_goals repeat (first|exact FitsSl.nil|refine FitsSl.any ?_|refine FitsSl.cons (Fit1.int (by first | rfl | omega)) ?_|refine FitsSl.cons (Fit1.same (by intro h;cases h) (by with_reducible rfl)) ?_)
      · rw [if_neg (fun h=>hk h.1)] at hnx
        (repeat' (first|(with_reducible first|(refine hK _ _ ?_;clear hK K)|(refine hA ?_;clear hA hB A B)|(refine hB ?_;clear hA hB A B))|((with_reducible first|refine z25 ?_|refine z26 ?_);intro K hK;(conv=>whnf))|(with_reducible refine z0 ?_)|((first|((with_reducible refine NV.i64 ?s ?_);case s=>omega)|((with_reducible refine NIf.no ?s ?_);case s=>simpa using hk)|((with_reducible refine NIf.decY ?s ?_);case s=>omega)|(with_reducible first|refine NN.cast ?_|refine NN.a5 ?_|refine NN.keep ?_)|((with_reducible refine NH.mk ?s ?_);case s=>(and_intros<;>first|with_reducible rfl|((with_reducible refine gOnes ?_);rfl)|((with_reducible refine gLen ?_);rfl)|omega))|(with_reducible refine NLd.of (by with_reducible assumption) ?_))<;>(conv=>whnf))|(with_reducible first|refine z3 ?_|refine z4 ?_|refine z5 ?_|refine z6 ?_)|((with_reducible refine z29 ?_);intro A B hA hB;(conv=>whnf))|(with_reducible first|refine z1 ?_|refine z2 ?_|refine z9 ?_)|((intro _;skip)<;>(conv=>whnf))))
        all_goals refine st_round (i+1) hlt (by omega) ?_ (MemFits.pre 2 rfl)
        all_goals repeat (first|exact FitsSl.nil|refine FitsSl.any ?_|refine FitsSl.cons (Fit1.int (by first | rfl | omega)) ?_|refine FitsSl.cons (Fit1.same (by intro h;cases h) (by with_reducible rfl)) ?_)
    | false =>
      rw [ha] at c hnx
      rw [if_neg (fun h=>by cases h.2)] at hnx
      by_cases hk:x.kind=9
      · (repeat' (first|(with_reducible first|(refine hK _ _ ?_;clear hK K)|(refine hA ?_;clear hA hB A B)|(refine hB ?_;clear hA hB A B))|((with_reducible first|refine z25 ?_|refine z26 ?_);intro K hK;(conv=>whnf))|(with_reducible refine z0 ?_)|((first|((with_reducible refine NV.i64 ?s ?_);case s=>omega)|((with_reducible refine NIf.decY ?s ?_);case s=>first|assumption|omega)|((with_reducible refine NIf.no ?s ?_);case s=>rfl)|(with_reducible first|refine NN.cast ?_|refine NN.a5 ?_|refine NN.keep ?_)|((with_reducible refine NH.mk ?s ?_);case s=>(and_intros<;>first|with_reducible rfl|((with_reducible refine gOnes ?_);rfl)|((with_reducible refine gLen ?_);rfl)|omega))|((with_reducible refine NCall.isF 30 ?_);refine NCall.subE [0,2,1] (c _ _) rfl (by decide) rfl rfl ?_)|(with_reducible refine NLd.of (by with_reducible assumption) ?_))<;>(conv=>whnf))|(with_reducible first|refine z3 ?_|refine z4 ?_|refine z5 ?_|refine z6 ?_)|((with_reducible refine z29 ?_);intro A B hA hB;(conv=>whnf))|(with_reducible first|refine z1 ?_|refine z2 ?_|refine z9 ?_)|((intro _;skip)<;>(conv=>whnf))))
        all_goals refine st_round (i+1) hlt (by omega) ?_ (MemFits.pre 2 rfl)
        all_goals repeat (first|exact FitsSl.nil|refine FitsSl.any ?_|refine FitsSl.cons (Fit1.int (by first | rfl | omega)) ?_|refine FitsSl.cons (Fit1.same (by intro h;cases h) (by with_reducible rfl)) ?_)
      · (repeat' (first|(with_reducible first|(refine hK _ _ ?_;clear hK K)|(refine hA ?_;clear hA hB A B)|(refine hB ?_;clear hA hB A B))|((with_reducible first|refine z25 ?_|refine z26 ?_);intro K hK;(conv=>whnf))|(with_reducible refine z0 ?_)|((first|((with_reducible refine NV.i64 ?s ?_);case s=>omega)|((with_reducible refine NIf.no ?s ?_);case s=>simpa using hk)|((with_reducible refine NIf.decY ?s ?_);case s=>omega)|(with_reducible first|refine NN.cast ?_|refine NN.a5 ?_|refine NN.keep ?_)|((with_reducible refine NH.mk ?s ?_);case s=>(and_intros<;>first|with_reducible rfl|((with_reducible refine gOnes ?_);rfl)|((with_reducible refine gLen ?_);rfl)|omega))|(with_reducible refine NLd.of (by with_reducible assumption) ?_))<;>(conv=>whnf))|(with_reducible first|refine z3 ?_|refine z4 ?_|refine z5 ?_|refine z6 ?_)|((with_reducible refine z29 ?_);intro A B hA hB;(conv=>whnf))|(with_reducible first|refine z1 ?_|refine z2 ?_|refine z9 ?_)|((intro _;skip)<;>(conv=>whnf))))
        all_goals refine st_round (i+1) hlt (by omega) ?_ (MemFits.pre 2 rfl)
        all_goals repeat (first|exact FitsSl.nil|refine FitsSl.any ?_|refine FitsSl.cons (Fit1.int (by first | rfl | omega)) ?_|refine FitsSl.cons (Fit1.same (by intro h;cases h) (by with_reducible rfl)) ?_)
  · have hii:i=l.length:=by omega
    subst hii
    rw [List.take_length]
    (repeat' (first|(with_reducible first|(refine hK _ _ ?_;clear hK K)|(refine hB ?_;clear hA hB A B)|(refine hK _ ?_;clear hK K))|((with_reducible refine z25 ?_);intro K hK;(conv=>whnf))|(with_reducible refine z0 ?_)|(((with_reducible refine NIf.decN ?s ?_);case s=>omega)<;>(conv=>whnf))|(with_reducible first|refine z3 ?_|refine z4 ?_|refine z7 ?_|refine z8 ?_)|((with_reducible refine z29 ?_);intro A B hA hB;(conv=>whnf))|(with_reducible first|refine z1 ?_|refine z2 ?_|refine z10 ?_|refine z11 ?_|refine z19 ?_)|((with_reducible refine gR ?_);(refine z31 rfl ?_;intro K hK;(conv=>whnf)))))
    all_goals exact ⟨rfl,G,hle,MemFits.pre 1 rfl⟩
end Go.Proofs.Ytijkmhmgigaieaa
