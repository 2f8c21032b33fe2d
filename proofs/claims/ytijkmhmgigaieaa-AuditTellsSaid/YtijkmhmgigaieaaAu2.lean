import Derived.Test.YtijkmhmgigaieaaAu1p
import Derived.Test.YtijkmhmgigaieaaTc2
import Derived.Test.YtijkmhmgigaieaaSxK
namespace Go.Proofs.Ytijkmhmgigaieaa
open Go.Sx
set_option maxRecDepth 20000
set_option linter.unusedSimpArgs false
set_option linter.unusedVariables false
set_option maxHeartbeats 4000000
set_option linter.unusedVariables false
namespace Au
def G.A (g:G):List AV:=[.int .i64 g.u,.int .i64 g.f,.int .i64 g.t]
def G.V (g:G):List Value:=[.int .i64 g.u,.int .i64 g.f,.int .i64 g.t]
abbrev GRow (F:Heap) (v:Value) (l:List G):Prop:=RowF F 3 (fun g us=>us=g.V) v l
theorem grow_mono {F G:Heap} (h:F.le G) {v:Value} {l:List Au.G} (hv:GRow F v l):GRow G v l:=RowF.mono h (fun _ _ h=>h) hv
theorem GRow.get {F:Heap} {v:Value} {l:List G} (h:GRow F v l) {i:Nat} {x:G} (hx:l[i]?=some x):F.c ((addrOf v).add (i*3)) (.int .i64 x.u)∧F.c ((addrOf v).add (i*3+1)) (.int .i64 x.f)∧F.c ((addrOf v).add (i*3+2)) (.int .i64 x.t):=by
  obtain ⟨us,rfl,_,h2⟩:=h.at_ i x hx
  simp only [G.V,CellsF,Nat.add_assoc,Nat.reduceAdd] at h2
  exact ⟨h2.1,h2.2.1,h2.2.2.1⟩
def crash (e:Tc.E):Bool:=decide (e.kind=12)&&decide (e.sw≥0)
end Au
theorem endcl_c (u:Int) (b:Nat) (e:Tc.E):NCall Try.prog 46 [.agg e.A,.ptr 0 ⟨b,0,none⟩ 0] [⟨⟨b,0,none⟩,[.int .i64 u],.var 3⟩] fun r m=>r = .bool (Au.ends u e)∧m=[⟨⟨b,0,none⟩,[.int .i64 u],.var 3⟩]:=by
  refine NCall.fits (K:=fun r m=>r = .bool (Au.ends u e)∧MemFits m [⟨⟨b,0,none⟩,[.int .i64 u],.var 3⟩]) ?_ fun r m' h=>⟨r,_,rfl,h.2,h.1,rfl⟩
  refine ncall_of Try.func46 rfl (by decide) ?_
  unfold Tc.E.A Au.ends
  by_cases h1:e.u=u<;>by_cases h2:e.kind=9<;>by_cases h3:e.kind=10
  all_goals (first | (exfalso;omega) | skip)
  all_goals simp only [h1,h2,h3,decide_true,decide_false,Bool.true_and,Bool.false_and,Bool.or_true,Bool.true_or,Bool.or_false]
  all_goals (repeat' (first|(with_reducible first|(refine hK _ _ ?_;clear hK K)|(refine hK _ ?_;clear hK K))|((with_reducible first|refine z25 ?_|refine z26 ?_);intro K hK;(conv=>whnf))|(with_reducible refine z0 ?_)|((first|((with_reducible refine NIf.yes ?s ?_);case s=>(simp [h1];done))|((with_reducible refine NIf.no ?s ?_);case s=>(simp [h1];done))|((with_reducible refine NIf.decN ?s ?_);case s=>assumption)|(with_reducible refine NN.a5 ?_)|((with_reducible refine NH.mk ?s ?_);case s=>(and_intros<;>with_reducible rfl)))<;>(conv=>whnf))|(with_reducible first|refine z3 ?_|refine z4 ?_|refine z8 ?_|refine z1 ?_|refine z2 ?_)|((with_reducible refine gR ?_);(refine z31 rfl ?_;intro K hK;(conv=>whnf)))|((with_reducible refine gF ?_);(refine z33 rfl ?_;intro K hK;(conv=>whnf)))|((intro _;skip)<;>(conv=>whnf))))
  all_goals first | (exfalso;omega) | exact ⟨rfl,MemFits.pre 1 rfl⟩ | exact ⟨by simp [h1,h2,h3],MemFits.pre 1 rfl⟩
theorem guardcl_c (at_:Int) (b:Nat) (g:Au.G):NCall Try.prog 31 [.agg g.A,.ptr 0 ⟨b,0,none⟩ 0] [⟨⟨b,0,none⟩,[.int .i64 at_],.var 3⟩] fun r m=>r = .bool (Au.inG at_ g)∧m=[⟨⟨b,0,none⟩,[.int .i64 at_],.var 3⟩]:=by
  refine NCall.fits (K:=fun r m=>r = .bool (Au.inG at_ g)∧MemFits m [⟨⟨b,0,none⟩,[.int .i64 at_],.var 3⟩]) ?_ fun r m' h=>⟨r,_,rfl,h.2,h.1,rfl⟩
  refine ncall_of Try.func31 rfl (by decide) ?_
  unfold Au.G.A Au.inG
  by_cases h1:g.f≤at_<;>by_cases h2:at_≤g.t
  all_goals simp only [h1,h2,decide_true,decide_false,Bool.true_and,Bool.false_and]
  all_goals (repeat' (first|(with_reducible first|(refine hK _ _ ?_;clear hK K)|(refine hK _ ?_;clear hK K))|((with_reducible first|refine z25 ?_|refine z26 ?_);intro K hK;(conv=>whnf))|(with_reducible refine z0 ?_)|((first|((with_reducible refine NIf.decY ?s ?_);case s=>assumption)|((with_reducible refine NIf.decN ?s ?_);case s=>assumption)|(with_reducible refine NN.a5 ?_)|((with_reducible refine NH.mk ?s ?_);case s=>(and_intros<;>with_reducible rfl)))<;>(conv=>whnf))|(with_reducible first|refine z3 ?_|refine z4 ?_|refine z8 ?_|refine z1 ?_|refine z2 ?_)|((with_reducible refine gR ?_);(refine z31 rfl ?_;intro K hK;(conv=>whnf)))|((with_reducible refine gF ?_);(refine z33 rfl ?_;intro K hK;(conv=>whnf)))|((intro _;skip)<;>(conv=>whnf))))
  all_goals first | (exfalso;omega) | exact ⟨by simp [h1,h2],MemFits.pre 1 rfl⟩ | exact ⟨by simp;omega,MemFits.pre 1 rfl⟩
theorem forcecl_c (at_:Int) (b b2:Nat) (e:Tc.E) (g:Au.G):NCall Try.prog 32 [.agg g.A,.ptr 0 ⟨b2,0,none⟩ 0,.ptr 1 ⟨b,0,none⟩ 0] [⟨⟨b2,0,none⟩,e.A,.var 34⟩,⟨⟨b,0,none⟩,[.int .i64 at_],.var 3⟩] fun r m=>r = .bool (Au.over at_ e.u g)∧m=[⟨⟨b2,0,none⟩,e.A,.var 34⟩,⟨⟨b,0,none⟩,[.int .i64 at_],.var 3⟩]:=by
  refine NCall.fits (K:=fun r m=>r = .bool (Au.over at_ e.u g)∧MemFits m [⟨⟨b2,0,none⟩,e.A,.var 34⟩,⟨⟨b,0,none⟩,[.int .i64 at_],.var 3⟩]) ?_ fun r m' h=>⟨r,_,rfl,h.2,h.1,rfl⟩
  refine ncall_of Try.func32 rfl (by decide) ?_
  unfold Au.G.A Au.over Tc.E.A
  by_cases h1:g.u=e.u<;>by_cases h2:g.t<at_
  all_goals simp only [h1,h2,decide_true,decide_false,Bool.true_and,Bool.false_and]
  all_goals (repeat' (first|(with_reducible first|(refine hK _ _ ?_;clear hK K)|(refine hK _ ?_;clear hK K))|((with_reducible first|refine z25 ?_|refine z26 ?_);intro K hK;(conv=>whnf))|(with_reducible refine z0 ?_)|((first|((with_reducible refine NIf.yes ?s ?_);case s=>(simp [h1];done))|((with_reducible refine NIf.no ?s ?_);case s=>(simp [h1];done))|(with_reducible refine NN.a5 ?_)|((with_reducible refine NH.mk ?s ?_);case s=>(and_intros<;>with_reducible rfl)))<;>(conv=>whnf))|(with_reducible first|refine z3 ?_|refine z4 ?_|refine z8 ?_|refine z1 ?_|refine z2 ?_)|((with_reducible refine gR ?_);(refine z31 rfl ?_;intro K hK;(conv=>whnf)))|((with_reducible refine gF ?_);(refine z33 rfl ?_;intro K hK;(conv=>whnf)))|((intro _;skip)<;>(conv=>whnf))))
  all_goals first | (exfalso;omega) | exact ⟨by simp [h1,h2],MemFits.pre 2 rfl⟩ | exact ⟨by simp;omega,MemFits.pre 2 rfl⟩
theorem crashcl_c (F:Heap) (e:Tc.E):NCall Try.prog 37 [.agg e.A] [] fun r _=>r = .bool (Au.crash e):=by
  refine ncall_of Try.func37 rfl (by decide) ?_
  unfold Tc.E.A Au.crash
  by_cases h1:e.kind=12<;>by_cases h2:e.sw≥0
  all_goals simp only [h1,h2,decide_true,decide_false,Bool.true_and,Bool.false_and]
  all_goals (repeat' (first|(with_reducible first|(refine hK _ _ ?_;clear hK K)|(refine hK _ ?_;clear hK K))|((with_reducible first|refine z25 ?_|refine z26 ?_);intro K hK;(conv=>whnf))|(with_reducible refine z0 ?_)|((first|((with_reducible refine NIf.yes ?s ?_);case s=>(simp [h1];done))|((with_reducible refine NIf.no ?s ?_);case s=>(simp [h1];done))|(with_reducible refine NN.a5 ?_)|((with_reducible refine NH.mk ?s ?_);case s=>(and_intros<;>with_reducible rfl)))<;>(conv=>whnf))|(with_reducible first|refine z3 ?_|refine z4 ?_|refine z8 ?_|refine z1 ?_|refine z2 ?_)|((with_reducible refine gR ?_);(refine z31 rfl ?_;intro K hK;(conv=>whnf)))|((with_reducible refine gF ?_);(refine z33 rfl ?_;intro K hK;(conv=>whnf)))|((intro _;skip)<;>(conv=>whnf))))
  all_goals first | (exfalso;omega) | simp [h1,h2] | (simp;omega)
theorem indexE_c (F:Heap) (v:Value) (l:List Tc.E) (hv:Tc.ERow F v l) (hl:l.length≤9223372036854775807) (u:Int) (b:Nat) :
    NCall Try.prog 45 [.hs v l.length,.fn 46 [] [.ptr 1 ⟨b,0,none⟩ 0]] (hpB F::[⟨⟨b,0,none⟩,[.int .i64 u],.var 3⟩]) fun r m=>r = .int .i64 (Au.idx (Au.ends u) l)∧m=hpB F::[⟨⟨b,0,none⟩,[.int .i64 u],.var 3⟩]:=by
  have hok:=hv.ok
  refine ncall_of Try.func45 rfl (by decide) ?_
  (repeat' (first|(with_reducible first|(refine hK _ _ ?_;clear hK K)|(refine hK _ ?_;clear hK K))|((with_reducible refine z25 ?_);intro K hK;(conv=>whnf))|(with_reducible refine z0 ?_)|(((with_reducible refine NH.mk ?s ?_);case s=>(and_intros<;>omega))<;>(conv=>whnf))|(with_reducible first|refine z3 ?_|refine z4 ?_|refine z5 ?_|refine z1 ?_|refine z2 ?_)|((with_reducible refine gF ?_);(refine z33 rfl ?_;intro K hK;(conv=>whnf)))))
  refine st_auto (α:=Nat) (fun i=>i≤l.length∧∀ j x,j<i→l[j]?=some x→(Au.ends u) x=false) (fun i=>[.keep,.keep,.keep,.keep,.set (.int .i64 0),.drop,.keep,.keep,.set (.int .i64 i),.drop,.drop,.drop,.drop,.drop,.drop,.drop,.drop,.drop,.drop]) (fun _=>[]) (fun i=>l.length - i) 0 ⟨Nat.zero_le _,fun j x h=>absurd h (Nat.not_lt_zero _)⟩ ?_ (MemFits.eq rfl) ?_
  · repeat (first|exact FitsSl.nil|refine FitsSl.any ?_|refine FitsSl.cons (Fit1.int (by first | rfl | omega)) ?_|refine FitsSl.cons (Fit1.same (by intro h;cases h) (by with_reducible rfl)) ?_)
  (intro i ⟨hi,hno⟩;intro K hK;(conv=>whnf);refine hK _ _ ?_;clear hK K)
  by_cases hlt:i<l.length
  · have hx:l[i]?=some l[i]:=List.getElem?_eq_getElem hlt
    obtain ⟨c0,c1,c2,c3,c4,c5⟩:=hv.get hx
    have hyes:=fun (h:(Au.ends u) l[i]=true)=>Au.idx_some hx h hno
    have hnx:(Au.ends u) l[i]=false→∀ j x,j<i+1→l[j]?=some x→(Au.ends u) x=false:=fun h j x hj hjx=>by
      rcases Nat.lt_or_ge j i with h1 | h1
      · exact hno j x h1 hjx
      · obtain rfl:j=i:=by omega
        rw [hx] at hjx
        injection hjx with hjx
        rw [← hjx];exact h
    generalize l[i]=x at *
    have c:=endcl_c u b x
    cases hp:(Au.ends u) x with
    | true =>
      rw [hp] at c
      have hid:=hyes hp
      (repeat' (first|(with_reducible first|(refine hK _ _ ?_;clear hK K)|(refine hA ?_;clear hA hB A B)|(refine hK _ ?_;clear hK K))|((with_reducible refine z25 ?_);intro K hK;(conv=>whnf))|(with_reducible refine z0 ?_)|((first|((with_reducible refine NIf.decY ?s ?_);case s=>omega)|((with_reducible refine NIf.yes ?s ?_);case s=>rfl)|(with_reducible first|refine NN.cast ?_|refine NN.keep ?_)|((with_reducible refine NH.mk ?s ?_);case s=>(and_intros<;>omega))|((with_reducible refine NCall.isF 46 ?_);refine NCall.subE [1] (c) rfl (by decide) rfl rfl ?_)|(with_reducible refine NLd.of (by with_reducible assumption) ?_))<;>(conv=>whnf))|(with_reducible first|refine z3 ?_|refine z4 ?_|refine z5 ?_|refine z6 ?_|refine z8 ?_)|((with_reducible refine z29 ?_);intro A B hA hB;(conv=>whnf))|(with_reducible first|refine z1 ?_|refine z2 ?_|refine z12 ?_|refine z13 ?_|refine z20 ?_)|((with_reducible refine gR ?_);(refine z31 rfl ?_;intro K hK;(conv=>whnf)))))
      all_goals exact ⟨by rw [hid],rfl⟩
    | false =>
      rw [hp] at c
      have hn2:=hnx hp
      (repeat' (first|(with_reducible first|(refine hK _ _ ?_;clear hK K)|(refine hA ?_;clear hA hB A B)|(refine hB ?_;clear hA hB A B))|((with_reducible refine z25 ?_);intro K hK;(conv=>whnf))|(with_reducible refine z0 ?_)|((first|((with_reducible refine NV.i64 ?s ?_);case s=>omega)|((with_reducible refine NIf.decY ?s ?_);case s=>omega)|((with_reducible refine NIf.no ?s ?_);case s=>rfl)|(with_reducible first|refine NN.cast ?_|refine NN.keep ?_)|((with_reducible refine NH.mk ?s ?_);case s=>(and_intros<;>omega))|((with_reducible refine NCall.isF 46 ?_);refine NCall.subE [1] (c) rfl (by decide) rfl rfl ?_)|(with_reducible refine NLd.of (by with_reducible assumption) ?_))<;>(conv=>whnf))|(with_reducible first|refine z3 ?_|refine z4 ?_|refine z5 ?_|refine z6 ?_)|((with_reducible refine z29 ?_);intro A B hA hB;(conv=>whnf))|(with_reducible first|refine z1 ?_|refine z2 ?_|refine z9 ?_)))
      all_goals refine st_round (i+1) ⟨hlt,hn2⟩ (by omega) ?_ (MemFits.eq rfl)
      all_goals repeat (first|exact FitsSl.nil|refine FitsSl.any ?_|refine FitsSl.cons (Fit1.int (by first | rfl | omega)) ?_|refine FitsSl.cons (Fit1.same (by intro h;cases h) (by with_reducible rfl)) ?_)
  · have hid:Au.idx (Au.ends u) l = -1:=Au.idx_none fun x hx=>by
      obtain ⟨j,hj,rfl⟩:=List.mem_iff_getElem.1 hx
      exact hno j _ (by omega) (List.getElem?_eq_getElem hj)
    (repeat' (first|(with_reducible first|(refine hK _ _ ?_;clear hK K)|(refine hB ?_;clear hA hB A B)|(refine hK _ ?_;clear hK K))|((with_reducible refine z25 ?_);intro K hK;(conv=>whnf))|(with_reducible refine z0 ?_)|(((with_reducible refine NIf.decN ?s ?_);case s=>omega)<;>(conv=>whnf))|(with_reducible first|refine z3 ?_|refine z4 ?_|refine z7 ?_|refine z8 ?_)|((with_reducible refine z29 ?_);intro A B hA hB;(conv=>whnf))|(with_reducible first|refine z1 ?_|refine z2 ?_|refine z10 ?_|refine z11 ?_|refine z19 ?_)|((with_reducible refine gR ?_);(refine z31 rfl ?_;intro K hK;(conv=>whnf)))))
    all_goals exact ⟨by rw [hid],rfl⟩
theorem indexG1_c (F:Heap) (v:Value) (l:List Au.G) (hv:Au.GRow F v l) (hl:l.length≤9223372036854775807) (at_:Int) (b:Nat) :
    NCall Try.prog 47 [.hs v l.length,.fn 31 [] [.ptr 1 ⟨b,0,none⟩ 0]] (hpB F::[⟨⟨b,0,none⟩,[.int .i64 at_],.var 3⟩]) fun r m=>r = .int .i64 (Au.idx (Au.inG at_) l)∧m=hpB F::[⟨⟨b,0,none⟩,[.int .i64 at_],.var 3⟩]:=by
  have hok:=hv.ok
  refine ncall_of Try.func47 rfl (by decide) ?_
  (repeat' (first|(with_reducible first|(refine hK _ _ ?_;clear hK K)|(refine hK _ ?_;clear hK K))|((with_reducible refine z25 ?_);intro K hK;(conv=>whnf))|(with_reducible refine z0 ?_)|(((with_reducible refine NH.mk ?s ?_);case s=>(and_intros<;>omega))<;>(conv=>whnf))|(with_reducible first|refine z3 ?_|refine z4 ?_|refine z5 ?_|refine z1 ?_|refine z2 ?_)|((with_reducible refine gF ?_);(refine z33 rfl ?_;intro K hK;(conv=>whnf)))))
  refine st_auto (α:=Nat) (fun i=>i≤l.length∧∀ j x,j<i→l[j]?=some x→(Au.inG at_) x=false) (fun i=>[.keep,.keep,.keep,.keep,.set (.int .i64 0),.drop,.keep,.keep,.set (.int .i64 i),.drop,.drop,.drop,.drop,.drop,.drop,.drop,.drop,.drop,.drop]) (fun _=>[]) (fun i=>l.length - i) 0 ⟨Nat.zero_le _,fun j x h=>absurd h (Nat.not_lt_zero _)⟩ ?_ (MemFits.eq rfl) ?_
  · repeat (first|exact FitsSl.nil|refine FitsSl.any ?_|refine FitsSl.cons (Fit1.int (by first | rfl | omega)) ?_|refine FitsSl.cons (Fit1.same (by intro h;cases h) (by with_reducible rfl)) ?_)
  (intro i ⟨hi,hno⟩;intro K hK;(conv=>whnf);refine hK _ _ ?_;clear hK K)
  by_cases hlt:i<l.length
  · have hx:l[i]?=some l[i]:=List.getElem?_eq_getElem hlt
    obtain ⟨c0,c1,c2⟩:=hv.get hx
    have hyes:=fun (h:(Au.inG at_) l[i]=true)=>Au.idx_some hx h hno
    have hnx:(Au.inG at_) l[i]=false→∀ j x,j<i+1→l[j]?=some x→(Au.inG at_) x=false:=fun h j x hj hjx=>by
      rcases Nat.lt_or_ge j i with h1 | h1
      · exact hno j x h1 hjx
      · obtain rfl:j=i:=by omega
        rw [hx] at hjx
        injection hjx with hjx
        rw [← hjx];exact h
    generalize l[i]=x at *
    have c:=guardcl_c at_ b x
    cases hp:(Au.inG at_) x with
    | true =>
      rw [hp] at c
      have hid:=hyes hp
      (repeat' (first|(with_reducible first|(refine hK _ _ ?_;clear hK K)|(refine hA ?_;clear hA hB A B)|(refine hK _ ?_;clear hK K))|((with_reducible refine z25 ?_);intro K hK;(conv=>whnf))|(with_reducible refine z0 ?_)|((first|((with_reducible refine NIf.decY ?s ?_);case s=>omega)|((with_reducible refine NIf.yes ?s ?_);case s=>rfl)|(with_reducible first|refine NN.cast ?_|refine NN.keep ?_)|((with_reducible refine NH.mk ?s ?_);case s=>(and_intros<;>omega))|((with_reducible refine NCall.isF 31 ?_);refine NCall.subE [1] (c) rfl (by decide) rfl rfl ?_)|(with_reducible refine NLd.of (by with_reducible assumption) ?_))<;>(conv=>whnf))|(with_reducible first|refine z3 ?_|refine z4 ?_|refine z5 ?_|refine z6 ?_|refine z8 ?_)|((with_reducible refine z29 ?_);intro A B hA hB;(conv=>whnf))|(with_reducible first|refine z1 ?_|refine z2 ?_|refine z12 ?_|refine z13 ?_|refine z20 ?_)|((with_reducible refine gR ?_);(refine z31 rfl ?_;intro K hK;(conv=>whnf)))))
      all_goals exact ⟨by rw [hid],rfl⟩
    | false =>
      rw [hp] at c
      have hn2:=hnx hp
      (repeat' (first|(with_reducible first|(refine hK _ _ ?_;clear hK K)|(refine hA ?_;clear hA hB A B)|(refine hB ?_;clear hA hB A B))|((with_reducible refine z25 ?_);intro K hK;(conv=>whnf))|(with_reducible refine z0 ?_)|((first|((with_reducible refine NV.i64 ?s ?_);case s=>omega)|((with_reducible refine NIf.decY ?s ?_);case s=>omega)|((with_reducible refine NIf.no ?s ?_);case s=>rfl)|(with_reducible first|refine NN.cast ?_|refine NN.keep ?_)|((with_reducible refine NH.mk ?s ?_);case s=>(and_intros<;>omega))|((with_reducible refine NCall.isF 31 ?_);refine NCall.subE [1] (c) rfl (by decide) rfl rfl ?_)|(with_reducible refine NLd.of (by with_reducible assumption) ?_))<;>(conv=>whnf))|(with_reducible first|refine z3 ?_|refine z4 ?_|refine z5 ?_|refine z6 ?_)|((with_reducible refine z29 ?_);intro A B hA hB;(conv=>whnf))|(with_reducible first|refine z1 ?_|refine z2 ?_|refine z9 ?_)))
      all_goals refine st_round (i+1) ⟨hlt,hn2⟩ (by omega) ?_ (MemFits.eq rfl)
      all_goals repeat (first|exact FitsSl.nil|refine FitsSl.any ?_|refine FitsSl.cons (Fit1.int (by first | rfl | omega)) ?_|refine FitsSl.cons (Fit1.same (by intro h;cases h) (by with_reducible rfl)) ?_)
  · have hid:Au.idx (Au.inG at_) l = -1:=Au.idx_none fun x hx=>by
      obtain ⟨j,hj,rfl⟩:=List.mem_iff_getElem.1 hx
      exact hno j _ (by omega) (List.getElem?_eq_getElem hj)
    (repeat' (first|(with_reducible first|(refine hK _ _ ?_;clear hK K)|(refine hB ?_;clear hA hB A B)|(refine hK _ ?_;clear hK K))|((with_reducible refine z25 ?_);intro K hK;(conv=>whnf))|(with_reducible refine z0 ?_)|(((with_reducible refine NIf.decN ?s ?_);case s=>omega)<;>(conv=>whnf))|(with_reducible first|refine z3 ?_|refine z4 ?_|refine z7 ?_|refine z8 ?_)|((with_reducible refine z29 ?_);intro A B hA hB;(conv=>whnf))|(with_reducible first|refine z1 ?_|refine z2 ?_|refine z10 ?_|refine z11 ?_|refine z19 ?_)|((with_reducible refine gR ?_);(refine z31 rfl ?_;intro K hK;(conv=>whnf)))))
    all_goals exact ⟨by rw [hid],rfl⟩
theorem containsG1_c (F:Heap) (v:Value) (l:List Au.G) (hv:Au.GRow F v l) (hl:l.length≤9223372036854775807) (at_:Int) (b:Nat) :
    NCall Try.prog 30 [.hs v l.length,.fn 31 [] [.ptr 1 ⟨b,0,none⟩ 0]] (hpB F::[⟨⟨b,0,none⟩,[.int .i64 at_],.var 3⟩]) fun r m=>r = .bool (l.any (Au.inG at_))∧m=hpB F::[⟨⟨b,0,none⟩,[.int .i64 at_],.var 3⟩]:=by
  have c:=indexG1_c F v l hv hl at_ b
  have hA:=Au.idx_any (Au.inG at_) l
  refine ncall_of Try.func30 rfl (by decide) ?_
  (repeat' (first|(with_reducible first|(refine hK _ _ ?_;clear hK K)|(refine hK _ ?_;clear hK K))|((with_reducible refine z25 ?_);intro K hK;(conv=>whnf))|(with_reducible refine z0 ?_)|(((with_reducible refine NCall.isF 47 ?_);refine NCall.subE [0,1] (c) rfl (by decide) rfl rfl ?_)<;>(conv=>whnf))|(with_reducible first|refine z3 ?_|refine z4 ?_|refine z8 ?_|refine z1 ?_|refine z2 ?_)|((with_reducible refine gR ?_);(refine z31 rfl ?_;intro K hK;(conv=>whnf)))|((with_reducible refine gF ?_);(refine z33 rfl ?_;intro K hK;(conv=>whnf)))))
  all_goals exact ⟨by rw [← hA],rfl⟩
theorem indexG2_c (F:Heap) (v:Value) (l:List Au.G) (hv:Au.GRow F v l) (hl:l.length≤9223372036854775807) (at_:Int) (b b2:Nat) (e:Tc.E) :
    NCall Try.prog 47 [.hs v l.length,.fn 32 [] [.ptr 1 ⟨b2,0,none⟩ 0,.ptr 2 ⟨b,0,none⟩ 0]] (hpB F::[⟨⟨b2,0,none⟩,e.A,.var 34⟩,⟨⟨b,0,none⟩,[.int .i64 at_],.var 3⟩]) fun r m=>r = .int .i64 (Au.idx (Au.over at_ e.u) l)∧m=hpB F::[⟨⟨b2,0,none⟩,e.A,.var 34⟩,⟨⟨b,0,none⟩,[.int .i64 at_],.var 3⟩]:=by
  have hok:=hv.ok
  refine ncall_of Try.func47 rfl (by decide) ?_
  (repeat' (first|(with_reducible first|(refine hK _ _ ?_;clear hK K)|(refine hK _ ?_;clear hK K))|((with_reducible refine z25 ?_);intro K hK;(conv=>whnf))|(with_reducible refine z0 ?_)|(((with_reducible refine NH.mk ?s ?_);case s=>(and_intros<;>omega))<;>(conv=>whnf))|(with_reducible first|refine z3 ?_|refine z4 ?_|refine z5 ?_|refine z1 ?_|refine z2 ?_)|((with_reducible refine gF ?_);(refine z33 rfl ?_;intro K hK;(conv=>whnf)))))
  refine st_auto (α:=Nat) (fun i=>i≤l.length∧∀ j x,j<i→l[j]?=some x→(Au.over at_ e.u) x=false) (fun i=>[.keep,.keep,.keep,.keep,.set (.int .i64 0),.drop,.keep,.keep,.set (.int .i64 i),.drop,.drop,.drop,.drop,.drop,.drop,.drop,.drop,.drop,.drop]) (fun _=>[]) (fun i=>l.length - i) 0 ⟨Nat.zero_le _,fun j x h=>absurd h (Nat.not_lt_zero _)⟩ ?_ (MemFits.eq rfl) ?_
  · repeat (first|exact FitsSl.nil|refine FitsSl.any ?_|refine FitsSl.cons (Fit1.int (by first | rfl | omega)) ?_|refine FitsSl.cons (Fit1.same (by intro h;cases h) (by with_reducible rfl)) ?_)
  (intro i ⟨hi,hno⟩;intro K hK;(conv=>whnf);refine hK _ _ ?_;clear hK K)
  by_cases hlt:i<l.length
  · have hx:l[i]?=some l[i]:=List.getElem?_eq_getElem hlt
    obtain ⟨c0,c1,c2⟩:=hv.get hx
    have hyes:=fun (h:(Au.over at_ e.u) l[i]=true)=>Au.idx_some hx h hno
    have hnx:(Au.over at_ e.u) l[i]=false→∀ j x,j<i+1→l[j]?=some x→(Au.over at_ e.u) x=false:=fun h j x hj hjx=>by
      rcases Nat.lt_or_ge j i with h1 | h1
      · exact hno j x h1 hjx
      · obtain rfl:j=i:=by omega
        rw [hx] at hjx
        injection hjx with hjx
        rw [← hjx];exact h
    generalize l[i]=x at *
    have c:=forcecl_c at_ b b2 e x
    cases hp:(Au.over at_ e.u) x with
    | true =>
      rw [hp] at c
      have hid:=hyes hp
      (repeat' (first|(with_reducible first|(refine hK _ _ ?_;clear hK K)|(refine hA ?_;clear hA hB A B)|(refine hK _ ?_;clear hK K))|((with_reducible refine z25 ?_);intro K hK;(conv=>whnf))|(with_reducible refine z0 ?_)|((first|((with_reducible refine NIf.decY ?s ?_);case s=>omega)|((with_reducible refine NIf.yes ?s ?_);case s=>rfl)|(with_reducible first|refine NN.cast ?_|refine NN.keep ?_)|((with_reducible refine NH.mk ?s ?_);case s=>(and_intros<;>omega))|((with_reducible refine NCall.isF 32 ?_);refine NCall.subE [1,2] (c) rfl (by decide) rfl rfl ?_)|(with_reducible refine NLd.of (by with_reducible assumption) ?_))<;>(conv=>whnf))|(with_reducible first|refine z3 ?_|refine z4 ?_|refine z5 ?_|refine z6 ?_|refine z8 ?_)|((with_reducible refine z29 ?_);intro A B hA hB;(conv=>whnf))|(with_reducible first|refine z1 ?_|refine z2 ?_|refine z12 ?_|refine z13 ?_|refine z20 ?_)|((with_reducible refine gR ?_);(refine z31 rfl ?_;intro K hK;(conv=>whnf)))))
      all_goals exact ⟨by rw [hid],rfl⟩
    | false =>
      rw [hp] at c
      have hn2:=hnx hp
      (repeat' (first|(with_reducible first|(refine hK _ _ ?_;clear hK K)|(refine hA ?_;clear hA hB A B)|(refine hB ?_;clear hA hB A B))|((with_reducible refine z25 ?_);intro K hK;(conv=>whnf))|(with_reducible refine z0 ?_)|((first|((with_reducible refine NV.i64 ?s ?_);case s=>omega)|((with_reducible refine NIf.decY ?s ?_);case s=>omega)|((with_reducible refine NIf.no ?s ?_);case s=>rfl)|(with_reducible first|refine NN.cast ?_|refine NN.keep ?_)|((with_reducible refine NH.mk ?s ?_);case s=>(and_intros<;>omega))|((with_reducible refine NCall.isF 32 ?_);refine NCall.subE [1,2] (c) rfl (by decide) rfl rfl ?_)|(with_reducible refine NLd.of (by with_reducible assumption) ?_))<;>(conv=>whnf))|(with_reducible first|refine z3 ?_|refine z4 ?_|refine z5 ?_|refine z6 ?_)|((with_reducible refine z29 ?_);intro A B hA hB;(conv=>whnf))|(with_reducible first|refine z1 ?_|refine z2 ?_|refine z9 ?_)))
      all_goals refine st_round (i+1) ⟨hlt,hn2⟩ (by omega) ?_ (MemFits.eq rfl)
      all_goals repeat (first|exact FitsSl.nil|refine FitsSl.any ?_|refine FitsSl.cons (Fit1.int (by first | rfl | omega)) ?_|refine FitsSl.cons (Fit1.same (by intro h;cases h) (by with_reducible rfl)) ?_)
  · have hid:Au.idx (Au.over at_ e.u) l = -1:=Au.idx_none fun x hx=>by
      obtain ⟨j,hj,rfl⟩:=List.mem_iff_getElem.1 hx
      exact hno j _ (by omega) (List.getElem?_eq_getElem hj)
    (repeat' (first|(with_reducible first|(refine hK _ _ ?_;clear hK K)|(refine hB ?_;clear hA hB A B)|(refine hK _ ?_;clear hK K))|((with_reducible refine z25 ?_);intro K hK;(conv=>whnf))|(with_reducible refine z0 ?_)|(((with_reducible refine NIf.decN ?s ?_);case s=>omega)<;>(conv=>whnf))|(with_reducible first|refine z3 ?_|refine z4 ?_|refine z7 ?_|refine z8 ?_)|((with_reducible refine z29 ?_);intro A B hA hB;(conv=>whnf))|(with_reducible first|refine z1 ?_|refine z2 ?_|refine z10 ?_|refine z11 ?_|refine z19 ?_)|((with_reducible refine gR ?_);(refine z31 rfl ?_;intro K hK;(conv=>whnf)))))
    all_goals exact ⟨by rw [hid],rfl⟩
theorem containsG2_c (F:Heap) (v:Value) (l:List Au.G) (hv:Au.GRow F v l) (hl:l.length≤9223372036854775807) (at_:Int) (b b2:Nat) (e:Tc.E) :
    NCall Try.prog 30 [.hs v l.length,.fn 32 [] [.ptr 1 ⟨b2,0,none⟩ 0,.ptr 2 ⟨b,0,none⟩ 0]] (hpB F::[⟨⟨b2,0,none⟩,e.A,.var 34⟩,⟨⟨b,0,none⟩,[.int .i64 at_],.var 3⟩]) fun r m=>r = .bool (l.any (Au.over at_ e.u))∧m=hpB F::[⟨⟨b2,0,none⟩,e.A,.var 34⟩,⟨⟨b,0,none⟩,[.int .i64 at_],.var 3⟩]:=by
  have c:=indexG2_c F v l hv hl at_ b b2 e
  have hA:=Au.idx_any (Au.over at_ e.u) l
  refine ncall_of Try.func30 rfl (by decide) ?_
  (repeat' (first|(with_reducible first|(refine hK _ _ ?_;clear hK K)|(refine hK _ ?_;clear hK K))|((with_reducible refine z25 ?_);intro K hK;(conv=>whnf))|(with_reducible refine z0 ?_)|(((with_reducible refine NCall.isF 47 ?_);refine NCall.subE [0,1,2] (c) rfl (by decide) rfl rfl ?_)<;>(conv=>whnf))|(with_reducible first|refine z3 ?_|refine z4 ?_|refine z8 ?_|refine z1 ?_|refine z2 ?_)|((with_reducible refine gR ?_);(refine z31 rfl ?_;intro K hK;(conv=>whnf)))|((with_reducible refine gF ?_);(refine z33 rfl ?_;intro K hK;(conv=>whnf)))))
  all_goals exact ⟨by rw [← hA],rfl⟩
theorem indexC_c (F:Heap) (v:Value) (l:List Tc.E) (hv:Tc.ERow F v l) (hl:l.length≤9223372036854775807)  :
    NCall Try.prog 45 [.hs v l.length,.fn 37 [] []] (hpB F::[]) fun r m=>r = .int .i64 (Au.idx (Au.crash) l)∧m=hpB F::[]:=by
  have hok:=hv.ok
  refine ncall_of Try.func45 rfl (by decide) ?_
  (repeat' (first|(with_reducible first|(refine hK _ _ ?_;clear hK K)|(refine hK _ ?_;clear hK K))|((with_reducible refine z25 ?_);intro K hK;(conv=>whnf))|(with_reducible refine z0 ?_)|(((with_reducible refine NH.mk ?s ?_);case s=>(and_intros<;>omega))<;>(conv=>whnf))|(with_reducible first|refine z3 ?_|refine z4 ?_|refine z5 ?_|refine z1 ?_|refine z2 ?_)|((with_reducible refine gF ?_);(refine z33 rfl ?_;intro K hK;(conv=>whnf)))))
  refine st_auto (α:=Nat) (fun i=>i≤l.length∧∀ j x,j<i→l[j]?=some x→(Au.crash) x=false) (fun i=>[.keep,.keep,.keep,.keep,.set (.int .i64 0),.drop,.keep,.keep,.set (.int .i64 i),.drop,.drop,.drop,.drop,.drop,.drop,.drop,.drop,.drop,.drop]) (fun _=>[]) (fun i=>l.length - i) 0 ⟨Nat.zero_le _,fun j x h=>absurd h (Nat.not_lt_zero _)⟩ ?_ (MemFits.eq rfl) ?_
  · repeat (first|exact FitsSl.nil|refine FitsSl.any ?_|refine FitsSl.cons (Fit1.int (by first | rfl | omega)) ?_|refine FitsSl.cons (Fit1.same (by intro h;cases h) (by with_reducible rfl)) ?_)
  (intro i ⟨hi,hno⟩;intro K hK;(conv=>whnf);refine hK _ _ ?_;clear hK K)
  by_cases hlt:i<l.length
  · have hx:l[i]?=some l[i]:=List.getElem?_eq_getElem hlt
    obtain ⟨c0,c1,c2,c3,c4,c5⟩:=hv.get hx
    have hyes:=fun (h:(Au.crash) l[i]=true)=>Au.idx_some hx h hno
    have hnx:(Au.crash) l[i]=false→∀ j x,j<i+1→l[j]?=some x→(Au.crash) x=false:=fun h j x hj hjx=>by
      rcases Nat.lt_or_ge j i with h1 | h1
      · exact hno j x h1 hjx
      · obtain rfl:j=i:=by omega
        rw [hx] at hjx
        injection hjx with hjx
        rw [← hjx];exact h
    generalize l[i]=x at *
    have c:=crashcl_c F x
    cases hp:(Au.crash) x with
    | true =>
      rw [hp] at c
      have hid:=hyes hp
      (repeat' (first|(with_reducible first|(refine hK _ _ ?_;clear hK K)|(refine hA ?_;clear hA hB A B)|(refine hK _ ?_;clear hK K))|((with_reducible refine z25 ?_);intro K hK;(conv=>whnf))|(with_reducible refine z0 ?_)|((first|((with_reducible refine NIf.decY ?s ?_);case s=>omega)|((with_reducible refine NIf.yes ?s ?_);case s=>rfl)|(with_reducible first|refine NN.cast ?_|refine NN.keep ?_)|((with_reducible refine NH.mk ?s ?_);case s=>(and_intros<;>omega))|((with_reducible refine NCall.isF 37 ?_);refine NCall.pureE (c) ?_)|(with_reducible refine NLd.of (by with_reducible assumption) ?_))<;>(conv=>whnf))|(with_reducible first|refine z3 ?_|refine z4 ?_|refine z5 ?_|refine z6 ?_|refine z8 ?_)|((with_reducible refine z29 ?_);intro A B hA hB;(conv=>whnf))|(with_reducible first|refine z1 ?_|refine z2 ?_|refine z12 ?_|refine z13 ?_|refine z20 ?_)|((with_reducible refine gR ?_);(refine z31 rfl ?_;intro K hK;(conv=>whnf)))))
      all_goals exact ⟨by rw [hid],rfl⟩
    | false =>
      rw [hp] at c
      have hn2:=hnx hp
      (repeat' (first|(with_reducible first|(refine hK _ _ ?_;clear hK K)|(refine hA ?_;clear hA hB A B)|(refine hB ?_;clear hA hB A B))|((with_reducible refine z25 ?_);intro K hK;(conv=>whnf))|(with_reducible refine z0 ?_)|((first|((with_reducible refine NV.i64 ?s ?_);case s=>omega)|((with_reducible refine NIf.decY ?s ?_);case s=>omega)|((with_reducible refine NIf.no ?s ?_);case s=>rfl)|(with_reducible first|refine NN.cast ?_|refine NN.keep ?_)|((with_reducible refine NH.mk ?s ?_);case s=>(and_intros<;>omega))|((with_reducible refine NCall.isF 37 ?_);refine NCall.pureE (c) ?_)|(with_reducible refine NLd.of (by with_reducible assumption) ?_))<;>(conv=>whnf))|(with_reducible first|refine z3 ?_|refine z4 ?_|refine z5 ?_|refine z6 ?_)|((with_reducible refine z29 ?_);intro A B hA hB;(conv=>whnf))|(with_reducible first|refine z1 ?_|refine z2 ?_|refine z9 ?_)))
      all_goals refine st_round (i+1) ⟨hlt,hn2⟩ (by omega) ?_ (MemFits.eq rfl)
      all_goals repeat (first|exact FitsSl.nil|refine FitsSl.any ?_|refine FitsSl.cons (Fit1.int (by first | rfl | omega)) ?_|refine FitsSl.cons (Fit1.same (by intro h;cases h) (by with_reducible rfl)) ?_)
  · have hid:Au.idx (Au.crash) l = -1:=Au.idx_none fun x hx=>by
      obtain ⟨j,hj,rfl⟩:=List.mem_iff_getElem.1 hx
      exact hno j _ (by omega) (List.getElem?_eq_getElem hj)
    (repeat' (first|(with_reducible first|(refine hK _ _ ?_;clear hK K)|(refine hB ?_;clear hA hB A B)|(refine hK _ ?_;clear hK K))|((with_reducible refine z25 ?_);intro K hK;(conv=>whnf))|(with_reducible refine z0 ?_)|(((with_reducible refine NIf.decN ?s ?_);case s=>omega)<;>(conv=>whnf))|(with_reducible first|refine z3 ?_|refine z4 ?_|refine z7 ?_|refine z8 ?_)|((with_reducible refine z29 ?_);intro A B hA hB;(conv=>whnf))|(with_reducible first|refine z1 ?_|refine z2 ?_|refine z10 ?_|refine z11 ?_|refine z19 ?_)|((with_reducible refine gR ?_);(refine z31 rfl ?_;intro K hK;(conv=>whnf)))))
    all_goals exact ⟨by rw [hid],rfl⟩
theorem containsC_c (F:Heap) (v:Value) (l:List Tc.E) (hv:Tc.ERow F v l) (hl:l.length≤9223372036854775807)  :
    NCall Try.prog 36 [.hs v l.length,.fn 37 [] []] (hpB F::[]) fun r m=>r = .bool (l.any (Au.crash))∧m=hpB F::[]:=by
  have c:=indexC_c F v l hv hl
  have hA:=Au.idx_any (Au.crash) l
  refine ncall_of Try.func36 rfl (by decide) ?_
  (repeat' (first|(with_reducible first|(refine hK _ _ ?_;clear hK K)|(refine hK _ ?_;clear hK K))|((with_reducible refine z25 ?_);intro K hK;(conv=>whnf))|(with_reducible refine z0 ?_)|(((with_reducible refine NCall.isF 45 ?_);refine NCall.subE [0] (c) rfl (by decide) rfl rfl ?_)<;>(conv=>whnf))|(with_reducible first|refine z3 ?_|refine z4 ?_|refine z8 ?_|refine z1 ?_|refine z2 ?_)|((with_reducible refine gR ?_);(refine z31 rfl ?_;intro K hK;(conv=>whnf)))|((with_reducible refine gF ?_);(refine z33 rfl ?_;intro K hK;(conv=>whnf)))))
  all_goals exact ⟨by rw [← hA],rfl⟩
theorem crashes42_c (F:Heap) (v:Value) (l:List Tc.E) (hv:Tc.ERow F v l) (hl:l.length≤1000):NCall Try.prog 22 [.hs v l.length] [hpB F] fun r m=>r = .bool (l.any Au.crash)∧m=[hpB F]:=by
  have c:=containsC_c F v l hv (by omega)
  refine ncall_of Try.func22 rfl (by decide) ?_
  (repeat' (first|(with_reducible first|(refine hK _ _ ?_;clear hK K)|(refine hK _ ?_;clear hK K))|((with_reducible refine z25 ?_);intro K hK;(conv=>whnf))|(with_reducible refine z0 ?_)|(((with_reducible refine NCall.isF 36 ?_);refine NCall.subE [0] (c) rfl (by decide) rfl rfl ?_)<;>(conv=>whnf))|(with_reducible first|refine z3 ?_|refine z4 ?_|refine z8 ?_|refine z1 ?_|refine z2 ?_)|((with_reducible refine gR ?_);(refine z31 rfl ?_;intro K hK;(conv=>whnf)))|((with_reducible refine gF ?_);(refine z33 rfl ?_;intro K hK;(conv=>whnf)))))
  all_goals exact ⟨rfl,rfl⟩
end Go.Proofs.Ytijkmhmgigaieaa
