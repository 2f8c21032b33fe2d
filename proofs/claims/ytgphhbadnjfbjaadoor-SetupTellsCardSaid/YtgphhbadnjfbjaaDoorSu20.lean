import Derived.Test.YtgphhbadnjfbjaaDoorSu19
namespace Go.Proofs.YtgphhbadnjfbjaaDoor
open Go.Sx
set_option maxRecDepth 20000
set_option linter.unusedSimpArgs false
set_option linter.unusedVariables false
set_option maxHeartbeats 8000000
set_option linter.unusedVariables false
namespace Su
def eL (c:Cfg) (i:Nat):L:=line (wEnds.getD i []) [c.e.getD i 0]
theorem ends_range (c:Cfg):endsT wEnds c.e=(List.range 6).flatMap (eL c):=rfl
theorem range_next (f:Nat→L) (i:Nat):(List.range (i+1)).flatMap f=(List.range i).flatMap f++f i:=by
  rw [List.range_succ,List.flatMap_append]
  simp
end Su
theorem reftext40_c (F:Heap) (c:Su.Cfg) (lv hv wv sv:Value) (h:Su.At F c lv hv wv sv) (hw:Su.Wide c) (hlen:(Su.text c).length≤1000000) :
    NCall Tryd.prog 11 [.agg (Su.cs c lv hv wv sv)] [hpB F] fun r m=>r = .str (Su.text c)∧∃ G,F.le G∧m=[hpB G]:=by
  refine NCall.fits (K:=fun r m=>r = .str (Su.text c)∧∃ G,F.le G∧MemFits m [hpB G]) ?_ fun r m' ⟨h1,G,h2,h3⟩=>⟨r,_,rfl,h3,h1,G,h2,rfl⟩
  have hlok:=h.l.ok
  have hhok:=h.h.ok
  have hsok:=h.s.ok
  have hwok:=h.w.ok
  have hparts:=Su.text_parts c
  rw [Su.ends_range] at hparts
  have hsh:=Su.short_of hlen
  have hbl:=hsh.l
  have hbh:=hsh.h
  have hbw:=hsh.w
  have hcl:=Su.flat_take (fun x:Su.Lk=>Su.line Su.wLink x.l) c.links
  have hch:=Su.flat_take (fun x:Su.Hs=>Su.line Su.wHost x.l) c.hosts
  have hcw:=Su.flat_take Su.wline c.weights
  have htot:=congrArg List.length hparts
  simp only [List.length_append] at htot
  have hnS:=refline40_c F Su.wStarts sv c.starts h.s hsh.s hw.starts (by decide)
  have he:=fun G=>ends40_c G (.int .i64 c.sw) (.hs lv c.links.length) (.hs hv c.hosts.length) (.hs wv c.weights.length) (.hs sv c.starts.length) c.rate c.room c.wide c.lead c.margin c.retry
  have hn0:∀ (v:Value) (t:TypeId),NCall Tryd.prog 28 [.str Su.wSwitches,.sl 1 v 1] [hpB F,⟨addrOf v,[.int .i64 c.sw],.row v t 1 1⟩] fun r m=>r = .str (Su.line Su.wSwitches [c.sw])∧m=[hpB F,⟨addrOf v,[.int .i64 c.sw],.row v t 1 1⟩]:=fun v t=>reflineO_c F Su.wSwitches v [c.sw] (by simp) (fun n hn=>by rw [List.mem_singleton.1 hn];exact hw.sw) (by decide) t
  generalize Su.line Su.wSwitches [c.sw]=P at *
  generalize hS:Su.line Su.wStarts c.starts=S at *
  clear hS
  unfold Su.cs
  unfold Su.wSwitches at hn0
  unfold Su.wStarts at hnS
  refine ncall_of Tryd.func11 rfl (by decide) ?_
  (repeat' (first|(with_reducible first|(refine hK _ _ ?_;clear hK K)|(refine hK _ ?_;clear hK K))|((with_reducible refine z25 ?_);intro K hK;(conv=>whnf))|(with_reducible refine z0 ?_)|((first|(with_reducible refine NN.a5 ?_)|((with_reducible refine NH.mk ?s ?_);case s=>(and_intros<;>first|with_reducible rfl|((with_reducible refine gLen ?_);rfl)|omega))|((with_reducible refine NCall.isF 28 ?_);refine NCall.subE [0,2] (hn0 _ _) rfl (by decide) rfl rfl ?_))<;>(conv=>whnf))|(with_reducible first|refine z3 ?_|refine z4 ?_|refine z5 ?_|refine z1 ?_|refine z2 ?_)|((with_reducible refine gF ?_);(refine z33 rfl ?_;intro K hK;(conv=>whnf)))|((intro _;skip)<;>(conv=>whnf))))
  refine st_auto (α:=Nat × List UInt8) (fun (i,tx)=>i≤c.links.length∧tx=P++(c.links.take i).flatMap (fun x:Su.Lk=>Su.line Su.wLink x.l)) (fun (i,tx)=>[.keep,.keep,.set (.str []),.set (.str tx),.set (.int .i64 i),.drop,.keep,.keep,.keep,.keep,.keep,.keep,.keep,.keep,.keep,.keep,.drop,.drop,.drop,.drop,.drop,.drop,.drop,.drop,.drop,.drop,.drop,.drop,.drop,.drop,.drop,.drop,.drop,.drop,.drop,.drop,.drop,.drop,.drop,.drop,.drop,.drop,.drop,.drop,.drop,.drop,.keep,.keep,.keep,.keep,.keep,.keep,.keep,.keep,.keep,.keep,.keep,.keep,.keep,.keep,.keep,.keep,.keep,.keep,.keep,.keep,.keep,.keep,.keep,.keep,.keep,.keep,.keep,.keep,.keep,.keep,.keep,.keep,.keep,.keep,.keep,.keep,.keep,.keep,.keep,.keep,.keep,.keep,.keep,.keep,.keep,.keep,.keep,.keep,.keep,.keep,.keep,.keep,.keep,.keep,.keep,.keep,.keep,.keep,.keep,.keep,.keep,.keep,.keep,.keep,.keep,.keep,.keep,.keep,.keep,.keep,.keep,.keep,.keep,.keep,.keep,.keep,.keep,.keep,.keep,.keep,.keep]) (fun _=>[]) (fun (i,tx)=>c.links.length - i) (0,P) ⟨Nat.zero_le _,by simp⟩ ?_ (MemFits.eq rfl) ?_
  · repeat (first|exact FitsSl.nil|refine FitsSl.any ?_|refine FitsSl.cons (Fit1.int (by first | rfl | omega)) ?_|refine FitsSl.cons (Fit1.str rfl) ?_|refine FitsSl.cons (Fit1.same (by intro h;cases h) (by with_reducible rfl)) ?_)
  (intro ⟨i,tx⟩ ⟨hi,htx⟩;intro K hK;(conv=>whnf);refine hK _ _ ?_;clear hK K)
  dsimp only at hi htx ⊢
  by_cases hlt:i<c.links.length
  · obtain ⟨e0,e1,e2,e3,e4,e5⟩:=RowF.get6 (f0:=fun x:Su.Lk=>Value.int .i64 x.a) (f1:=fun x=>.int .i64 x.pa) (f2:=fun x=>.int .i64 x.b) (f3:=fun x=>.int .i64 x.pb) (f4:=fun x=>.int .i64 x.lo) (f5:=fun x=>.int .i64 x.hi) h.l hlt
    have hx:=hw.links _ (List.getElem_mem hlt)
    have hnx:=Su.flat_next (fun x:Su.Lk=>Su.line Su.wLink x.l) c.links i hlt
    have hle:=hcl (i+1)
    rw [hnx,List.length_append] at hle
    have htl:tx.length=P.length+((c.links.take i).flatMap (fun x:Su.Lk=>Su.line Su.wLink x.l)).length:=by rw [htx,List.length_append]
    have hn:∀ (v:Value) (t:TypeId),NCall Tryd.prog 28 [.str Su.wLink,.sl 1 v 6] [hpB F,⟨addrOf v,[.int .i64 c.links[i].a,.int .i64 c.links[i].pa,.int .i64 c.links[i].b,.int .i64 c.links[i].pb,.int .i64 c.links[i].lo,.int .i64 c.links[i].hi],.row v t 1 6⟩] fun r m=>r = .str (Su.line Su.wLink c.links[i].l)∧m=[hpB F,⟨addrOf v,[.int .i64 c.links[i].a,.int .i64 c.links[i].pa,.int .i64 c.links[i].b,.int .i64 c.links[i].pb,.int .i64 c.links[i].lo,.int .i64 c.links[i].hi],.row v t 1 6⟩]:=fun v t=>reflineO_c F Su.wLink v c.links[i].l (show 6≤_ by omega) hx (by decide) t
    have hnew:tx++Su.line Su.wLink c.links[i].l=P++(c.links.take (i+1)).flatMap (fun x:Su.Lk=>Su.line Su.wLink x.l):=by rw [hnx,htx,List.append_assoc]
    try dsimp only at hle
    try dsimp only at hnew
    clear hx hnx htx
    generalize c.links[i]=x at *
    generalize Su.line Su.wLink x.l=q at *
    unfold Su.wLink at hn
    clear hcl
    (repeat' (first|(with_reducible first|(refine hK _ _ ?_;clear hK K)|(refine hA ?_;clear hA hB A B))|((with_reducible refine z25 ?_);intro K hK;(conv=>whnf))|(with_reducible refine z0 ?_)|((first|((with_reducible refine NV.i64 ?s ?_);case s=>omega)|((with_reducible refine NIf.decY ?s ?_);case s=>omega)|(with_reducible first|refine NN.cast ?_|refine NN.a5 ?_|refine NN.keep ?_)|((with_reducible refine NH.mk ?s ?_);case s=>(and_intros<;>first|with_reducible rfl|((with_reducible refine gOnes ?_);rfl)|((with_reducible refine gLen ?_);rfl)|omega))|((with_reducible refine NCall.isF 28 ?_);refine NCall.subE [0,4] (hn _ _) rfl (by decide) rfl rfl ?_)|(with_reducible first|refine NS.keep ?_|refine NLd.of (by with_reducible assumption) ?_))<;>(conv=>whnf))|(with_reducible first|refine z3 ?_|refine z4 ?_|refine z5 ?_|refine z6 ?_)|((with_reducible refine z29 ?_);intro A B hA hB;(conv=>whnf))|(with_reducible first|refine z1 ?_|refine z2 ?_|refine z9 ?_)|((intro _;skip)<;>(conv=>whnf))))
    refine st_round (i+1,tx++q) ⟨hlt,hnew⟩ (by dsimp only;omega) ?_ (MemFits.pre 3 rfl)
    repeat (first|exact FitsSl.nil|refine FitsSl.any ?_|refine FitsSl.cons (Fit1.int (by first | rfl | omega)) ?_|refine FitsSl.cons (Fit1.str rfl) ?_|refine FitsSl.cons (Fit1.same (by intro h;cases h) (by with_reducible rfl)) ?_)
  have hi2:i=c.links.length:=by omega
  subst hi2
  rw [List.take_length] at htx
  rw [← htx] at hparts
  clear hcl hlt hi htx hn0
  have htot:=congrArg List.length hparts
  simp only [List.length_append] at htot
  (repeat' (first|(with_reducible first|(refine hK _ _ ?_;clear hK K)|(refine hB ?_;clear hA hB A B))|((with_reducible refine z25 ?_);intro K hK;(conv=>whnf))|(with_reducible refine z0 ?_)|((first|((with_reducible refine NIf.decN ?s ?_);case s=>omega)|(with_reducible refine NN.a5 ?_)|((with_reducible refine NH.mk ?s ?_);case s=>(and_intros<;>first|with_reducible rfl|omega)))<;>(conv=>whnf))|(with_reducible first|refine z3 ?_|refine z4 ?_|refine z5 ?_|refine z7 ?_)|((with_reducible refine z29 ?_);intro A B hA hB;(conv=>whnf))|(with_reducible first|refine z1 ?_|refine z2 ?_|refine z10 ?_|refine z11 ?_|refine z19 ?_)))
  refine st_auto (α:=Nat × List UInt8) (fun (i,ty)=>i≤c.hosts.length∧ty=tx++(c.hosts.take i).flatMap (fun x:Su.Hs=>Su.line Su.wHost x.l)) (fun (i,tx)=>[.keep,.keep,.set (.str []),.set (.str tx),.keep,.keep,.set (.int .i64 i),.keep,.keep,.keep,.keep,.keep,.keep,.keep,.keep,.keep,.keep,.keep,.keep,.keep,.keep,.keep,.keep,.keep,.keep,.keep,.keep,.keep,.keep,.keep,.keep,.keep,.keep,.keep,.keep,.keep,.keep,.keep,.keep,.keep,.keep,.keep,.keep,.keep,.keep,.keep,.drop,.drop,.drop,.drop,.drop,.drop,.drop,.drop,.drop,.drop,.drop,.drop,.drop,.drop,.drop,.drop,.drop,.drop,.drop,.drop,.drop,.drop,.drop,.drop,.drop,.drop,.keep,.keep,.keep,.keep,.keep,.keep,.keep,.keep,.keep,.keep,.keep,.keep,.keep,.keep,.keep,.keep,.keep,.keep,.keep,.keep,.keep,.keep,.keep,.keep,.keep,.keep,.keep,.keep,.keep,.keep,.keep,.keep,.keep,.keep,.keep,.keep,.keep,.keep,.keep,.keep,.keep,.keep,.keep,.keep,.keep,.keep,.keep,.keep,.keep,.keep,.keep,.keep,.keep,.keep,.keep]) (fun _=>[]) (fun (i,tx)=>c.hosts.length - i) (0,tx) ⟨Nat.zero_le _,by simp⟩ ?_ (MemFits.eq rfl) ?_
  · repeat (first|exact FitsSl.nil|refine FitsSl.any ?_|refine FitsSl.cons (Fit1.int (by first | rfl | omega)) ?_|refine FitsSl.cons (Fit1.bool rfl) ?_|refine FitsSl.cons (Fit1.str rfl) ?_|refine FitsSl.cons (Fit1.same (by intro h;cases h) (by with_reducible rfl)) ?_)
  (intro ⟨i,ty⟩ ⟨hi,hty⟩;intro K hK;(conv=>whnf);refine hK _ _ ?_;clear hK K)
  dsimp only at hi hty ⊢
  by_cases hlt:i<c.hosts.length
  · obtain ⟨e0,e1⟩:=RowF.get2 (f0:=fun x:Su.Hs=>Value.int .i64 x.at_) (f1:=fun x=>.int .i64 x.port) h.h hlt
    have hx:=hw.hosts _ (List.getElem_mem hlt)
    have hnx:=Su.flat_next (fun x:Su.Hs=>Su.line Su.wHost x.l) c.hosts i hlt
    have hle:=hch (i+1)
    rw [hnx,List.length_append] at hle
    have htl:ty.length=tx.length+((c.hosts.take i).flatMap (fun x:Su.Hs=>Su.line Su.wHost x.l)).length:=by rw [hty,List.length_append]
    have hn:∀ (v:Value) (t:TypeId),NCall Tryd.prog 28 [.str Su.wHost,.sl 1 v 2] [hpB F,⟨addrOf v,[.int .i64 c.hosts[i].at_,.int .i64 c.hosts[i].port],.row v t 1 2⟩] fun r m=>r = .str (Su.line Su.wHost c.hosts[i].l)∧m=[hpB F,⟨addrOf v,[.int .i64 c.hosts[i].at_,.int .i64 c.hosts[i].port],.row v t 1 2⟩]:=fun v t=>reflineO_c F Su.wHost v c.hosts[i].l (show 2≤_ by omega) hx (by decide) t
    have hnew:ty++Su.line Su.wHost c.hosts[i].l=tx++(c.hosts.take (i+1)).flatMap (fun x:Su.Hs=>Su.line Su.wHost x.l):=by rw [hnx,hty,List.append_assoc]
    try dsimp only at hle
    try dsimp only at hnew
    clear hx hnx hty
    generalize c.hosts[i]=x at *
    generalize Su.line Su.wHost x.l=q at *
    unfold Su.wHost at hn
    clear hch
    (repeat' (first|(with_reducible first|(refine hK _ _ ?_;clear hK K)|(refine hA ?_;clear hA hB A B)|(refine hK _ ?_;clear hK K))|((with_reducible refine z25 ?_);intro K hK;(conv=>whnf))|(with_reducible refine z0 ?_)|((first|((with_reducible refine NV.i64 ?s ?_);case s=>omega)|((with_reducible refine NIf.decY ?s ?_);case s=>omega)|(with_reducible first|refine NN.cast ?_|refine NN.a5 ?_|refine NN.a6 ?_|refine NN.keep ?_)|((with_reducible refine NH.mk ?s ?_);case s=>(and_intros<;>first|with_reducible rfl|((with_reducible refine gLen ?_);rfl)|((with_reducible refine gKept ?_);exact rfl)|omega|rfl))|((with_reducible refine NCall.isF 28 ?_);refine NCall.subE [0,3] (hn _ _) rfl (by decide) rfl rfl ?_)|(with_reducible first|refine NS.keep ?_|refine NLd.of (by with_reducible assumption) ?_))<;>(conv=>whnf))|(with_reducible refine st_ordSout ?_)|((with_reducible refine gNOK ?_);(first|(refine st_ordK1 rfl (by kernel_rfl) rfl ?_;intro K hK;(conv=>whnf))|refine st_ordK0 rfl (by kernel_rfl) ?_|refine st_ordKA rfl rfl (by kernel_rfl) (by intro h;cases h) ?_))|((with_reducible refine gNEK ?_);(first|(refine st_eachK ?_ ?_;(intro K hK;(conv=>whnf)))|exact st_eachK0))|((with_reducible refine gX ?_);(first|refine st_orderS [] rfl rfl (by kernel_rfl) _ rfl ?_|(with_reducible first|refine z3 ?_|refine z4 ?_|refine z5 ?_|refine z6 ?_)|((with_reducible refine z29 ?_);intro A B hA hB;(conv=>whnf))))|(with_reducible first|refine z1 ?_|refine z2 ?_|refine z9 ?_)|((intro _;skip)<;>(conv=>whnf))))
    all_goals refine st_round (i+1,ty++q) ⟨hlt,hnew⟩ (by dsimp only;omega) ?_ (MemFits.pre 3 rfl)
    all_goals repeat (first|exact FitsSl.nil|refine FitsSl.any ?_|refine FitsSl.cons (Fit1.int (by first | rfl | omega)) ?_|refine FitsSl.cons (Fit1.bool rfl) ?_|refine FitsSl.cons (Fit1.str rfl) ?_|refine FitsSl.cons (Fit1.same (by intro h;cases h) (by with_reducible rfl)) ?_)
  have hi2:i=c.hosts.length:=by omega
  subst hi2
  rw [List.take_length] at hty
  rw [← hty] at hparts
  clear hch hlt hi hty
  have htot:=congrArg List.length hparts
  simp only [List.length_append] at htot
  (repeat' (first|(with_reducible first|(refine hK _ _ ?_;clear hK K)|(refine hB ?_;clear hA hB A B))|((with_reducible refine z25 ?_);intro K hK;(conv=>whnf))|(with_reducible refine z0 ?_)|((first|((with_reducible refine NIf.decN ?s ?_);case s=>omega)|(with_reducible refine NN.a5 ?_)|((with_reducible refine NH.mk ?s ?_);case s=>(and_intros<;>first|with_reducible rfl|omega)))<;>(conv=>whnf))|(with_reducible first|refine z3 ?_|refine z4 ?_|refine z5 ?_|refine z7 ?_)|((with_reducible refine z29 ?_);intro A B hA hB;(conv=>whnf))|(with_reducible first|refine z1 ?_|refine z2 ?_|refine z10 ?_|refine z11 ?_|refine z19 ?_)))
  refine st_auto (α:=Nat × List UInt8) (fun (i,tz)=>i≤c.weights.length∧tz=ty++(c.weights.take i).flatMap Su.wline) (fun (i,tx)=>[.keep,.keep,.set (.str []),.set (.str tx),.keep,.keep,.keep,.set (.int .i64 i),.drop,.keep,.keep,.keep,.keep,.keep,.keep,.keep,.keep,.keep,.keep,.keep,.keep,.keep,.keep,.keep,.keep,.keep,.keep,.keep,.keep,.keep,.keep,.keep,.keep,.keep,.keep,.keep,.keep,.keep,.keep,.keep,.keep,.keep,.keep,.keep,.keep,.keep,.keep,.keep,.keep,.keep,.keep,.keep,.keep,.keep,.keep,.keep,.keep,.keep,.keep,.keep,.keep,.keep,.keep,.keep,.keep,.keep,.keep,.keep,.keep,.keep,.keep,.keep,.drop,.drop,.drop,.drop,.drop,.drop,.drop,.drop,.drop,.drop,.drop,.drop,.drop,.drop,.drop,.drop,.drop,.drop,.drop,.drop,.drop,.drop,.drop,.drop,.drop,.drop,.drop,.drop,.drop,.drop,.drop,.drop,.drop,.keep,.keep,.keep,.keep,.keep,.keep,.keep,.keep,.keep,.keep,.keep,.keep,.keep,.keep,.keep,.keep,.keep,.keep,.keep,.keep,.keep,.keep]) (fun _=>[]) (fun (i,tx)=>c.weights.length - i) (0,ty) ⟨Nat.zero_le _,by simp⟩ ?_ (MemFits.eq rfl) ?_
  · repeat (first|exact FitsSl.nil|refine FitsSl.any ?_|refine FitsSl.cons (Fit1.int (by first | rfl | omega)) ?_|refine FitsSl.cons (Fit1.bool rfl) ?_|refine FitsSl.cons (Fit1.str rfl) ?_|refine FitsSl.cons (Fit1.same (by intro h;cases h) (by with_reducible rfl)) ?_)
  (intro ⟨i,tz⟩ ⟨hi,htz⟩;intro K hK;(conv=>whnf);refine hK _ _ ?_;clear hK K)
  dsimp only at hi htz ⊢
  by_cases hlt:i<c.weights.length
  · obtain ⟨A,cap,g1,g2,g3⟩:=h.w.get hlt
    have hx:=hw.weights _ (List.getElem_mem hlt)
    have hnx:=Su.flat_next Su.wline c.weights i hlt
    have hle:=hcw (i+1)
    rw [hnx,List.length_append,Su.wline_len] at hle
    have htl:tz.length=ty.length+((c.weights.take i).flatMap Su.wline).length:=by rw [htz,List.length_append]
    have hnew:tz++Su.wline c.weights[i]=ty++(c.weights.take (i+1)).flatMap Su.wline:=by rw [hnx,htz,List.append_assoc]
    clear hnx htz
    generalize c.weights[i]=x at *
    clear hcw
    have hxl:x.length≤1000000:=by omega
    (repeat' (first|(with_reducible first|(refine hK _ _ ?_;clear hK K)|(refine hA ?_;clear hA hB A B))|((with_reducible refine z25 ?_);intro K hK;(conv=>whnf))|(with_reducible refine z0 ?_)|((first|((with_reducible refine NIf.decY ?s ?_);case s=>omega)|(with_reducible refine NN.a5 ?_)|((with_reducible refine NH.mk ?s ?_);case s=>(and_intros<;>first|with_reducible rfl|omega|(simp only [List.length_append,List.length_cons,List.length_nil];omega)))|(with_reducible refine NS.keep ?_))<;>(conv=>whnf))|(with_reducible first|refine z3 ?_|refine z4 ?_|refine z5 ?_|refine z6 ?_)|((with_reducible refine z29 ?_);intro A B hA hB;(conv=>whnf))|(with_reducible first|refine z1 ?_|refine z2 ?_)))
    refine st_auto (α:=Nat × List UInt8) (fun (k,tu)=>k≤x.length∧tu=tz++Su.wWeights++Su.hexs (x.take k)) (fun (k,tx)=>[.keep,.keep,.set (.str []),.set (.str tx),.keep,.keep,.keep,.keep,.set (.int .i64 k),.keep,.keep,.keep,.keep,.keep,.keep,.keep,.keep,.keep,.keep,.keep,.keep,.keep,.keep,.keep,.keep,.keep,.keep,.keep,.keep,.keep,.keep,.keep,.keep,.keep,.keep,.keep,.keep,.keep,.keep,.keep,.keep,.keep,.keep,.keep,.keep,.keep,.keep,.keep,.keep,.keep,.keep,.keep,.keep,.keep,.keep,.keep,.keep,.keep,.keep,.keep,.keep,.keep,.keep,.keep,.keep,.keep,.keep,.keep,.keep,.keep,.keep,.keep,.keep,.keep,.keep,.keep,.keep,.keep,.keep,.keep,.keep,.drop,.drop,.drop,.drop,.drop,.drop,.drop,.drop,.drop,.drop,.drop,.drop,.drop,.drop,.drop,.drop,.drop,.drop,.drop,.drop,.drop,.drop,.keep,.keep,.keep,.keep,.keep,.keep,.keep,.keep,.keep,.keep,.keep,.keep,.keep,.keep,.keep,.keep,.keep,.keep,.keep,.keep,.keep,.keep,.keep,.keep]) (fun _=>[]) (fun (k,tx)=>x.length - k) (0,tz++Su.wWeights) ⟨Nat.zero_le _,by rw [List.take_zero];exact (List.append_nil _).symm⟩ ?_ (MemFits.eq rfl) ?_
    · repeat (first|exact FitsSl.nil|refine FitsSl.any ?_|refine FitsSl.cons (Fit1.int (by first | rfl | omega)) ?_|refine FitsSl.cons (Fit1.bool rfl) ?_|refine FitsSl.cons (Fit1.str rfl) ?_|refine FitsSl.cons (Fit1.same (by intro h;cases h) (by with_reducible rfl)) ?_)
    (intro ⟨k,tu⟩ ⟨hk,htu⟩;intro K hK;(conv=>whnf);refine hK _ _ ?_;clear hK K)
    dsimp only at hk htu ⊢
    have hqt:tu.length≤tz.length+7+17*x.length:=by
      rw [htu,List.length_append,List.length_append,Su.hexs_len,List.length_take]
      show _+7+_≤_
      omega
    by_cases hkt:k<x.length
    · have e0:F.c ((addrOf (.slice A x.length cap)).add k) (.int .u64 x[k]):=RowF.get1 (f0:=fun x:Nat=>.int .u64 x) g1 hkt
      have hb:=refbits40_c x[k] (hx _ (List.getElem_mem hkt))
      have hz:=Su.bits_len x[k]
      have hnk:Su.hexs (x.take (k+1))=Su.hexs (x.take k)++(32::Su.bits x[k]):=Su.flat_next (fun n=>32::Su.bits n) x k hkt
      have hn2:tu++[32]++Su.bits x[k]=tz++Su.wWeights++Su.hexs (x.take (k+1)):=by rw [hnk,htu];simp
      clear hnk htu
      generalize x[k]=n at *
      generalize Su.bits n=z at *
      (repeat' (first|(with_reducible first|(refine hK _ _ ?_;clear hK K)|(refine hA ?_;clear hA hB A B))|((with_reducible refine z25 ?_);intro K hK;(conv=>whnf))|(with_reducible refine z0 ?_)|((first|((with_reducible refine NV.i64 ?s ?_);case s=>omega)|((with_reducible refine NIf.decY ?s ?_);case s=>omega)|(with_reducible first|refine NN.cast ?_|refine NN.a2 ?_|refine NN.a5 ?_)|((with_reducible refine NH.mk ?s ?_);case s=>(and_intros<;>first|with_reducible rfl|omega|(simp only [List.length_append,List.length_cons,List.length_nil];omega)))|((with_reducible refine NCall.isF 29 ?_);refine NCall.pureE (hb) ?_)|(with_reducible first|refine NS.keep ?_|refine NLd.of (by with_reducible assumption) ?_))<;>(conv=>whnf))|(with_reducible first|refine z3 ?_|refine z4 ?_|refine z5 ?_|refine z6 ?_)|((with_reducible refine z29 ?_);intro A B hA hB;(conv=>whnf))|(with_reducible first|refine z1 ?_|refine z2 ?_|refine z9 ?_)))
      all_goals refine st_round (k+1,tu++[32]++z) ⟨hkt,hn2⟩ (by dsimp only;omega) ?_ (MemFits.eq rfl)
      all_goals repeat (first|exact FitsSl.nil|refine FitsSl.any ?_|refine FitsSl.cons (Fit1.int (by first | rfl | omega)) ?_|refine FitsSl.cons (Fit1.bool rfl) ?_|refine FitsSl.cons (Fit1.str rfl) ?_|refine FitsSl.cons (Fit1.same (by intro h;cases h) (by with_reducible rfl)) ?_)
    · obtain rfl:k=x.length:=by omega
      rw [List.take_length] at htu
      have hn3:tu++[10]=ty++(c.weights.take (i+1)).flatMap Su.wline:=by rw [← hnew,htu,List.append_assoc,List.append_assoc];unfold Su.wline;rw [List.append_assoc]
      clear htu hnew
      (repeat' (first|(with_reducible first|(refine hK _ _ ?_;clear hK K)|(refine hB ?_;clear hA hB A B))|((with_reducible refine z25 ?_);intro K hK;(conv=>whnf))|(with_reducible refine z0 ?_)|((first|((with_reducible refine NV.i64 ?s ?_);case s=>omega)|((with_reducible refine NIf.decN ?s ?_);case s=>omega)|(with_reducible first|refine NN.cast ?_|refine NN.a2 ?_|refine NN.a5 ?_)|((with_reducible refine NH.mk ?s ?_);case s=>(and_intros<;>first|with_reducible rfl|omega|(simp only [List.length_append,List.length_cons,List.length_nil];omega)))|(with_reducible first|refine NS.keep ?_|refine NLd.of (by with_reducible assumption) ?_))<;>(conv=>whnf))|(with_reducible first|refine z3 ?_|refine z4 ?_|refine z7 ?_)|((with_reducible refine z29 ?_);intro A B hA hB;(conv=>whnf))|(with_reducible first|refine z1 ?_|refine z2 ?_|refine z9 ?_|refine z10 ?_|refine z11 ?_|refine z19 ?_)))
      all_goals refine st_round (i+1,tu++[10]) ⟨hlt,hn3⟩ (by dsimp only;omega) ?_ (MemFits.eq rfl)
      all_goals repeat (first|exact FitsSl.nil|refine FitsSl.any ?_|refine FitsSl.cons (Fit1.int (by first | rfl | omega)) ?_|refine FitsSl.cons (Fit1.bool rfl) ?_|refine FitsSl.cons (Fit1.str rfl) ?_|refine FitsSl.cons (Fit1.same (by intro h;cases h) (by with_reducible rfl)) ?_)
  have hi2:i=c.weights.length:=by omega
  subst hi2
  rw [List.take_length] at htz
  rw [← htz] at hparts
  clear hcw hlt hi htz
  have htot:=congrArg List.length hparts
  simp only [List.length_append] at htot
  (repeat' (first|(with_reducible first|(refine hK _ _ ?_;clear hK K)|(refine hB ?_;clear hA hB A B))|((with_reducible refine z25 ?_);intro K hK;(conv=>whnf))|(with_reducible refine z0 ?_)|((first|((with_reducible refine NIf.decN ?s ?_);case s=>omega)|(with_reducible refine NN.a5 ?_)|((with_reducible refine NH.mk ?s ?_);case s=>(and_intros<;>first|with_reducible rfl|omega))|((with_reducible refine NCall.isF 28 ?_);refine NCall.subE [0] (hnS) rfl (by decide) rfl rfl ?_)|((with_reducible refine NCall.isF 30 ?_);refine NCall.subw [0] _ _ (he F) rfl (by decide) rfl ?_;rintro _ _ ⟨G,u,hG,hu,rfl,rfl⟩;refine ⟨Nat.le_of_ble_eq_true rfl,_,rfl,?_⟩)|(with_reducible refine NS.keep ?_))<;>(conv=>whnf))|(with_reducible first|refine z3 ?_|refine z4 ?_|refine z5 ?_|refine z7 ?_)|((with_reducible refine z29 ?_);intro A B hA hB;(conv=>whnf))|(with_reducible first|refine z1 ?_|refine z2 ?_|refine z10 ?_|refine z11 ?_|refine z19 ?_)))
  have huok:=hu.ok
  refine st_auto (α:=Nat × List UInt8) (fun (i,tw)=>i≤6∧tw=tz++S++(List.range i).flatMap (Su.eL c)) (fun (i,tx)=>[.keep,.keep,.set (.str []),.set (.str tx),.keep,.keep,.keep,.keep,.keep,.keep,.set (.int .i64 i),.keep,.keep,.keep,.keep,.keep,.keep,.keep,.keep,.keep,.keep,.keep,.keep,.keep,.keep,.keep,.keep,.keep,.keep,.keep,.keep,.keep,.keep,.keep,.keep,.keep,.keep,.keep,.keep,.keep,.keep,.keep,.keep,.keep,.keep,.keep,.keep,.keep,.keep,.keep,.keep,.keep,.keep,.keep,.keep,.keep,.keep,.keep,.keep,.keep,.keep,.keep,.keep,.keep,.keep,.keep,.keep,.keep,.keep,.keep,.keep,.keep,.keep,.keep,.keep,.keep,.keep,.keep,.keep,.keep,.keep,.keep,.keep,.keep,.keep,.keep,.keep,.keep,.keep,.keep,.keep,.keep,.keep,.keep,.keep,.keep,.keep,.keep,.keep,.keep,.keep,.keep,.keep,.keep,.keep,.keep,.keep,.keep,.keep,.keep,.keep,.keep,.drop,.drop,.drop,.drop,.drop,.drop,.drop,.drop,.drop,.drop,.drop,.drop,.drop,.drop,.keep]) (fun _=>[]) (fun (i,tx)=>6 - i) (0,tz++S) ⟨Nat.zero_le _,by simp⟩ ?_ (MemFits.eq rfl) ?_
  · repeat (first|exact FitsSl.nil|refine FitsSl.any ?_|refine FitsSl.cons (Fit1.int (by first | rfl | omega)) ?_|refine FitsSl.cons (Fit1.bool rfl) ?_|refine FitsSl.cons (Fit1.str rfl) ?_|refine FitsSl.cons (Fit1.same (by intro h;cases h) (by with_reducible rfl)) ?_)
  (intro ⟨i,tw⟩ ⟨hi,htw⟩;intro K hK;(conv=>whnf);refine hK _ _ ?_;clear hK K)
  dsimp only at hi htw ⊢
  by_cases hlt:i<6
  · have hlt':i<c.e.length:=hlt
    have e0:G.c ((addrOf u).add i) (.int .i64 (c.e.getD i 0)):=Su.int_at hu (by show c.e[i]?=_;rw [List.getD_eq_getElem?_getD,List.getElem?_eq_getElem hlt'];rfl)
    have hin:Su.w64 (c.e.getD i 0):=hw.ends _ (by rw [List.getD_eq_getElem?_getD,List.getElem?_eq_getElem hlt'];exact List.getElem_mem hlt')
    have cw:=word40_c i hlt
    have hwl:∀ i,i<6→(Su.wEnds.getD i []).length≤100:=by decide
    have hnx:=Su.range_next (Su.eL c) i
    have hl6:=Su.line_up (Su.wEnds.getD i []) [c.e.getD i 0] (fun n hn=>by rw [List.mem_singleton.1 hn];exact hin)
    have hn:∀ (v:Value) (t:TypeId),NCall Tryd.prog 28 [.str (Su.wEnds.getD i []),.sl 1 v 1] [hpB G,⟨addrOf v,[.int .i64 (c.e.getD i 0)],.row v t 1 1⟩] fun r m=>r = .str (Su.eL c i)∧m=[hpB G,⟨addrOf v,[.int .i64 (c.e.getD i 0)],.row v t 1 1⟩]:=fun v t=>reflineO_c G (Su.wEnds.getD i []) v [c.e.getD i 0] (by simp) (fun n hn=>by rw [List.mem_singleton.1 hn];exact hin) (hwl i hlt) t
    have hnew:tw++Su.eL c i=tz++S++(List.range (i+1)).flatMap (Su.eL c):=by rw [hnx,htw,List.append_assoc]
    have hq:tw.length+(Su.eL c i).length≤1000000:=by
      have h1:=Su.flat_take (Su.eL c) (List.range 6) (i+1)
      rw [List.take_range,Nat.min_eq_left (by omega)] at h1
      have h2:=congrArg List.length hnew
      simp only [List.length_append] at h2
      omega
    clear hnx htw
    generalize Su.eL c i=q at *
    generalize c.e.getD i 0=n at *
    generalize Su.wEnds.getD i []=w at *
    (repeat' (first|(with_reducible first|(refine hK _ _ ?_;clear hK K)|(refine hA ?_;clear hA hB A B)|(refine hK _ ?_;clear hK K))|((with_reducible refine z25 ?_);intro K hK;(conv=>whnf))|(with_reducible refine z0 ?_)|((first|((with_reducible refine NV.i64 ?s ?_);case s=>omega)|((with_reducible refine NIf.decY ?s ?_);case s=>omega)|(with_reducible first|refine NN.cast ?_|refine NN.a2 ?_)|((with_reducible refine NH.mk ?s ?_);case s=>(and_intros<;>first|((with_reducible refine gLen ?_);rfl)|((with_reducible refine gKept ?_);exact rfl)|omega))|((with_reducible refine NCall.isF 21 ?_);refine NCall.pureE (cw) ?_)|((with_reducible refine NCall.isF 28 ?_);refine NCall.subE [0,3] (hn _ _) rfl (by decide) rfl rfl ?_)|(with_reducible first|refine NS.keep ?_|refine NLd.of (by with_reducible assumption) ?_))<;>(conv=>whnf))|(with_reducible refine st_ordSout ?_)|((with_reducible refine gNOK ?_);(first|(refine st_ordK1 rfl (by kernel_rfl) rfl ?_;intro K hK;(conv=>whnf))|refine st_ordK0 rfl (by kernel_rfl) ?_|refine st_ordKA rfl rfl (by kernel_rfl) (by intro h;cases h) ?_))|((with_reducible refine gNEK ?_);(first|(refine st_eachK ?_ ?_;(intro K hK;(conv=>whnf)))|exact st_eachK0))|((with_reducible refine gX ?_);(first|refine st_orderS [] rfl rfl (by kernel_rfl) _ rfl ?_|(with_reducible first|refine z3 ?_|refine z4 ?_|refine z5 ?_|refine z6 ?_)|((with_reducible refine z29 ?_);intro A B hA hB;(conv=>whnf))))|(with_reducible first|refine z1 ?_|refine z2 ?_|refine z9 ?_)|((intro _;skip)<;>(conv=>whnf))))
    all_goals refine st_round (i+1,tw++q) ⟨hlt,hnew⟩ (by dsimp only;omega) ?_ (MemFits.pre 3 rfl)
    all_goals repeat (first|exact FitsSl.nil|refine FitsSl.any ?_|refine FitsSl.cons (Fit1.int (by first | rfl | omega)) ?_|refine FitsSl.cons (Fit1.bool rfl) ?_|refine FitsSl.cons (Fit1.str rfl) ?_|refine FitsSl.cons (Fit1.same (by intro h;cases h) (by with_reducible rfl)) ?_)
  · obtain rfl:i=6:=by omega
    rw [hparts,← htw]
    (repeat' (first|(with_reducible first|(refine hK _ _ ?_;clear hK K)|(refine hB ?_;clear hA hB A B)|(refine hK _ ?_;clear hK K))|((with_reducible refine z25 ?_);intro K hK;(conv=>whnf))|(with_reducible refine z0 ?_)|(((with_reducible refine NIf.decN ?s ?_);case s=>omega)<;>(conv=>whnf))|(with_reducible first|refine z3 ?_|refine z4 ?_|refine z7 ?_|refine z8 ?_)|((with_reducible refine z29 ?_);intro A B hA hB;(conv=>whnf))|(with_reducible first|refine z1 ?_|refine z2 ?_|refine z10 ?_|refine z11 ?_|refine z19 ?_)|((with_reducible refine gR ?_);(refine z31 rfl ?_;intro K hK;(conv=>whnf)))))
    all_goals exact ⟨rfl,G,hG,MemFits.pre 1 rfl⟩
end Go.Proofs.YtgphhbadnjfbjaaDoor
