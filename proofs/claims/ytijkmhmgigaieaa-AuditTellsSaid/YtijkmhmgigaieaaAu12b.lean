import Derived.Test.YtijkmhmgigaieaaAu5
import Derived.Test.YtijkmhmgigaieaaAu12
namespace Go.Proofs.Ytijkmhmgigaieaa
open Go.Sx
set_option maxRecDepth 20000
set_option linter.unusedSimpArgs false
set_option linter.unusedVariables false
set_option maxHeartbeats 4000000
set_option linter.unusedVariables false
theorem refcheck42_c (F:Heap) (t:Tp.T) (lv hv v ev:Value) (rs:List (List (List Int))) (l:List Tc.E) (ht:Tp.At F t lv hv) (hl:t.ls.length≤1000) (hh:t.hs.length≤1000) (hr:Au.RRow F v rs) (hf:Au.fewR rs) (he:Tc.ERow F ev l) (hel:l.length≤1000) :
    NCall Try.prog 21 [.agg (Tp.cs t lv hv),.hs v rs.length,.hs ev l.length] [hpB F] fun r m=>Au.FLays F (Au.check t rs l) r m:=by
  refine Au.finds_know (t:=56) ?_
  have hlo:=ht.l.ok
  have hho:=ht.h.ok
  have hok:=hr.ok
  have hek:=he.ok
  have hsh:=Tc.tr_short l
  have co:=refof41_c F ev l he hel
  have cG:=fun G (h:F.le G) a=>refguarded42_c G ev l (Tc.erow_mono h he) hel a
  have cI:=fun G (h:F.le G) a=>refinforce42_c G ev l (Tc.erow_mono h he) hel a
  have cW:=fun G (h:F.le G) k c w hw hc=>refwalked42_c G t lv hv v rs (ht.mono h) hl hh (Au.RRow.mono h hr) hf k c w hw hc
  have cT:=fun G l w hw hc=>reftwice41_c G l w hw hc
  have hfl:=Au.finds_len t rs l
  have hfd:∀ c,Au.finds t rs l c=Au.one (Tc.twice c.sws) 1 c.id++Au.one (decide (c.end_=4)) 2 c.id++Au.one (decide (c.end_=3)&&!decide (c.host=c.to)) 3 c.id++Au.one (!Au.guarded l c.at_&&!Au.walked t rs (Au.inForce l c.at_) c) 4 c.id:=fun c=>rfl
  unfold Au.check
  generalize Au.finds t rs l=fd at *
  generalize Tc.tr l=cs at *
  unfold Tp.cs at cW ⊢
  refine ncall_of Try.func21 rfl (by decide) ?_
  (repeat' (first|(with_reducible first|(refine hK _ _ ?_;clear hK K)|(refine hK _ ?_;clear hK K))|((with_reducible refine z25 ?_);intro K hK;(conv=>whnf))|(with_reducible refine z0 ?_)|(((with_reducible refine NCall.isF 33 ?_);refine NCall.subw [0] _ _ (co) rfl (by decide) rfl ?_;rintro _ _ ⟨G,u,hle,hu,rfl,rfl⟩;refine ⟨Nat.le_of_ble_eq_true rfl,_,rfl,?_⟩)<;>(conv=>whnf))|(with_reducible first|refine z3 ?_|refine z4 ?_|refine z5 ?_|refine z1 ?_|refine z2 ?_)|((with_reducible refine gF ?_);(refine z33 rfl ?_;intro K hK;(conv=>whnf)))|((intro _;skip)<;>(conv=>whnf))))
  rename_i b1
  have huk:=hu.ok
  have hok2:=(Au.RRow.mono hle hr).ok
  have hek2:=(Tc.erow_mono hle he).ok
  (repeat' (first|(with_reducible first|(refine hK _ _ ?_;clear hK K)|(refine hA ?_;clear hA hB A B)|(refine hB ?_;clear hA hB A B)|(refine hK _ ?_;clear hK K))|((with_reducible first|refine z25 ?_|refine z26 ?_);intro K hK;(conv=>whnf))|(with_reducible refine z0 ?_)|((with_reducible first|refine z27 ?_|refine z28 ?_);intro K hK;(conv=>whnf))|(with_reducible refine z24 ?_)|((first|((with_reducible first|refine NV.quo ?s ?_|refine NV.rem ?s ?_|refine NV.i64 ?s ?_|refine NV.u32 ?s ?_|refine NV.u8 ?s ?_|refine NV.u64 ?s ?_);case s=>omega)|(with_reducible first|refine NV.divk ?_|refine NV.modk ?_|refine NV.keep ?_|refine NIf.not_ ?_)|((with_reducible refine NIf.decY ?s ?_);case s=>first|with_reducible rfl|assumption|omega)|((with_reducible refine NIf.decN ?s ?_);case s=>first|with_reducible rfl|assumption|omega)|((with_reducible refine NIf.yes ?s ?_);case s=>first|rfl|assumption)|((with_reducible refine NIf.no ?s ?_);case s=>first|rfl|assumption)|(with_reducible first|refine NIf.dec (fun _=>?_) (fun _=>?_)|refine NIf.both (fun _=>?_) (fun _=>?_)|refine NN.lit ?_|refine NN.cast ?_|refine NN.a1 ?_|refine NN.a2 ?_|refine NN.a3 ?_|refine NN.a4 ?_|refine NN.a5 ?_|refine NN.a6 ?_|refine NN.keep ?_)|((with_reducible refine NH.mk ?s ?_);case s=>(and_intros<;>first|with_reducible rfl|((with_reducible refine gOnes ?_);rfl)|((with_reducible refine gLen ?_);rfl)|omega|assumption|exact Nat.le_of_ble_eq_true rfl|(simp only [List.length_append,List.length_cons,List.length_nil];omega)|rfl))|(with_reducible first|refine NS.keep ?_|refine NLd.of (by with_reducible assumption) ?_))<;>(conv=>whnf))|((with_reducible refine gX ?_);(first|(with_reducible first|refine z3 ?_|refine z4 ?_|refine z5 ?_|refine z6 ?_|refine z7 ?_|refine z8 ?_|refine z14 ?_|refine z15 ?_)|((with_reducible refine z29 ?_);intro A B hA hB;(conv=>whnf))|refine z34 (by kernel_rfl) (by kernel_rfl) ?_))|(with_reducible first|refine z1 ?_|refine z2 ?_|refine z9 ?_|refine z10 ?_|refine z11 ?_|refine z12 ?_|refine z13 ?_|refine z16 ?_|refine z17 ?_|refine z18 ?_|refine z19 ?_|refine z20 ?_|refine z21 ?_|refine z22 ?_|refine z23 ?_)|((with_reducible refine gB ?_);refine z30 (by decide) ?_)|((with_reducible refine gR ?_);((first|refine z31 rfl ?_|refine z32 rfl ?_);intro K hK;(conv=>whnf)))|((with_reducible refine gF ?_);(refine z33 rfl ?_;intro K hK;(conv=>whnf)))|((refine NFlat_iff.2 ⟨⟨?s1,?s2⟩,?_⟩;(case s1=>decide +kernel);(case s2=>decide +kernel))<;>(conv=>whnf))|((intro _;skip)<;>(conv=>whnf))))
  refine st_auto (α:=Value × Nat) (fun (w,i)=>i≤cs.length) (fun (w,i)=>[.keep,.keep,.keep,.keep,.keep,.keep,.keep,.set (.sl 2 w ((cs.take i).flatMap fd).length),.keep,.set (.int .i64 i),.drop,.keep,.keep,.drop,.drop,.drop,.drop,.drop,.drop,.drop,.drop,.drop,.drop,.drop,.drop,.drop,.drop,.drop,.drop,.drop,.drop,.drop,.drop,.drop,.drop,.drop,.drop,.drop,.drop,.drop,.drop,.drop,.drop,.drop,.drop,.drop,.drop,.drop,.drop,.drop,.drop,.drop,.drop,.drop,.drop,.drop,.drop,.drop,.drop,.drop,.drop,.drop,.drop,.drop,.drop,.drop,.drop,.drop,.drop,.drop,.drop,.drop,.drop,.drop,.drop,.drop,.drop,.drop,.drop,.keep]) (fun (w,i)=>[.keep,.keep,.set ⟨addrOf w,Au.fC ((cs.take i).flatMap fd),.row w 56 2 ((cs.take i).flatMap fd).length⟩]) (fun (w,i)=>cs.length - i) (.slice none 0 0,0) (Nat.zero_le _) ?_ (MemFits.nilRow _ 56 2) ?_
  · repeat (first|exact FitsSl.nil|refine FitsSl.any ?_|refine FitsSl.cons (Fit1.int (by first | rfl | omega)) ?_|refine FitsSl.cons (Fit1.same (by intro h;cases h) (by with_reducible rfl)) ?_|refine FitsSl.cons Fit1.nil_sl ?_)
  (intro ⟨w,i⟩ hi;intro K hK;(conv=>whnf);refine hK _ _ ?_;clear hK K)
  dsimp only at hi ⊢
  have hfl2:=Au.flat_len hfl (cs.take i)
  rw [List.length_take,Nat.min_eq_left hi] at hfl2
  have hcl:=hsh.1
  by_cases hlt:i<cs.length
  · have hx:cs[i]?=some cs[i]:=List.getElem?_eq_getElem hlt
    obtain ⟨A,cap,hrw,c0,c1,c2,c3,c4,c5,c6,c7⟩:=hu.get hx
    have hxl:cs[i].sws.length≤1000:=by
      have:=hsh.2 _ (List.getElem_mem hlt)
      omega
    have hnx:(cs.take (i+1)).flatMap fd=(cs.take i).flatMap fd++fd cs[i]:=by rw [List.take_add_one,hx,Option.toList_some,List.flatMap_append];simp
    rw [hfd] at hnx
    have hones:=Au.ones_fC ((cs.take i).flatMap fd)
    generalize (cs.take i).flatMap fd=fs at *
    generalize hf2:(cs.take (i+1)).flatMap fd=fs2 at *
    generalize cs[i]=x at *
    have ct:=cT G x.sws _ hrw hxl
    have cg:=cG G hle x.at_
    have ci:=cI G hle x.at_
    have cw:=cW G hle (Au.inForce l x.at_) x _ hrw hxl
    have hrk:=hrw.ok
    simp only [Tc.cs] at ct cw
    generalize Au.guarded l x.at_=gd at *
    generalize Au.inForce l x.at_=fo at *
    generalize Au.walked t rs fo x=wd at *
    generalize Tc.twice x.sws=tw at *
    have h1a:tw=true→Au.one tw 1 x.id=[(1,x.id)]:=fun h=>by rw [h];rfl
    have h1b:tw=false→Au.one tw 1 x.id=[]:=fun h=>by rw [h];rfl
    have h2a:x.end_=4→Au.one (decide (x.end_=4)) 2 x.id=[(2,x.id)]:=fun h=>by rw [decide_eq_true h];rfl
    have h2b:¬x.end_=4→Au.one (decide (x.end_=4)) 2 x.id=[]:=fun h=>by rw [decide_eq_false h];rfl
    have h3a:x.end_=3→¬x.host=x.to→Au.one (decide (x.end_=3)&&!decide (x.host=x.to)) 3 x.id=[(3,x.id)]:=fun h h2=>by rw [decide_eq_true h,decide_eq_false h2];rfl
    have h3b:¬x.end_=3→Au.one (decide (x.end_=3)&&!decide (x.host=x.to)) 3 x.id=[]:=fun h=>by rw [decide_eq_false h];rfl
    have h3c:x.host=x.to→Au.one (decide (x.end_=3)&&!decide (x.host=x.to)) 3 x.id=[]:=fun h=>by rw [decide_eq_true h,Bool.not_true,Bool.and_false];rfl
    have h4a:gd=true→Au.one (!gd&&!wd) 4 x.id=[]:=fun h=>by rw [h];rfl
    have h4b:gd=false→wd=false→Au.one (!gd&&!wd) 4 x.id=[(4,x.id)]:=fun h h2=>by rw [h,h2];rfl
    have h4c:wd=true→Au.one (!gd&&!wd) 4 x.id=[]:=fun h=>by rw [h,Bool.not_true,Bool.and_false];rfl
    (repeat' (first|(with_reducible first|(refine hK _ _ ?_;clear hK K)|(refine hA ?_;clear hA hB A B)|(refine hB ?_;clear hA hB A B)|(refine hK _ ?_;clear hK K))|((with_reducible first|refine z25 ?_|refine z26 ?_);intro K hK;(conv=>whnf))|(with_reducible refine z0 ?_)|((first|((with_reducible refine NV.i64 ?s ?_);case s=>omega)|with_reducible refine NIf.not_ ?_|((with_reducible refine NIf.decY ?s ?_);case s=>first|assumption|omega)|((with_reducible refine NIf.decN ?s ?_);case s=>first|assumption|omega)|((with_reducible refine NIf.yes ?s ?_);case s=>assumption)|((with_reducible refine NIf.no ?s ?_);case s=>first|rfl|assumption)|(with_reducible first|refine NIf.dec (fun _=>?_) (fun _=>?_)|refine NIf.both (fun _=>?_) (fun _=>?_)|refine NN.cast ?_|refine NN.a5 ?_|refine NN.keep ?_)|((with_reducible refine NH.mk ?s ?_);case s=>(and_intros<;>first|with_reducible rfl|((with_reducible refine gOnes ?_);rfl)|((with_reducible refine gLen ?_);rfl)|((with_reducible refine gKept ?_);exact rfl)|omega|rfl))|((with_reducible refine NCall.isF 34 ?_);refine NCall.subE [0] (ct) rfl (by decide) rfl rfl ?_)|((with_reducible refine NCall.isF 17 ?_);refine NCall.subE [0] (cg) rfl (by decide) rfl rfl ?_)|((with_reducible refine NCall.isF 18 ?_);refine NCall.subE [0] (ci) rfl (by decide) rfl rfl ?_)|((with_reducible refine NCall.isF 35 ?_);refine NCall.subE [0] (cw) rfl (by decide) rfl rfl ?_)|(with_reducible refine NLd.of (by with_reducible assumption) ?_))<;>(conv=>whnf))|(with_reducible refine st_ordSout ?_)|((with_reducible refine gNOK ?_);(first|(refine st_ordK1 rfl (by kernel_rfl) rfl ?_;intro K hK;(conv=>whnf))|(refine st_ordK1g rfl (by kernel_rfl) rfl ?_;intro K hK;(conv=>whnf))|refine st_ordK0 rfl (by kernel_rfl) ?_|refine st_ordKA rfl rfl (by kernel_rfl) (by intro h;cases h) ?_))|((with_reducible refine gNEK ?_);(first|(refine st_eachK ?_ ?_;(intro K hK;(conv=>whnf)))|(refine st_eachKg rfl ?_ ?_;(intro K hK;(conv=>whnf)))|exact st_eachK0))|((with_reducible refine gX ?_);(first|refine st_orderS [2,3] rfl rfl (by kernel_rfl) _ rfl ?_|(with_reducible first|refine z3 ?_|refine z4 ?_|refine z5 ?_|refine z6 ?_)|((with_reducible refine z29 ?_);intro A B hA hB;(conv=>whnf))))|(with_reducible first|refine z1 ?_|refine z2 ?_|refine z9 ?_)|((intro _;skip)<;>(conv=>whnf))))
    all_goals
      first | rw [h1a (by assumption)] at hnx | rw [h1b (by assumption)] at hnx
      first | rw [h2a (by assumption)] at hnx | rw [h2b (by first | assumption | omega)] at hnx
      first | rw [h3b (by first | assumption | omega)] at hnx | rw [h3a (by assumption) (by assumption)] at hnx | rw [h3c (by assumption)] at hnx
      first | rw [h4a (by assumption)] at hnx | rw [h4b (by assumption) (by assumption)] at hnx | rw [h4c (by assumption)] at hnx
      simp only [← List.append_assoc,List.append_nil] at hnx
      have hln:=congrArg List.length hnx
      try simp only [List.length_append,List.length_singleton] at hln
      refine' st_round (_,i+1) hlt (by show cs.length - (i+1)<cs.length - i;omega) ?_ ?_
      rotate_left
      · dsimp only
        rw [hf2,hln]
        repeat (first|exact FitsSl.nil|refine FitsSl.any ?_|refine FitsSl.cons (Fit1.int (by first | rfl | omega)) ?_|refine FitsSl.cons (Fit1.same (by intro h;cases h) (by with_reducible rfl)) ?_)
      · dsimp only
        rw [hf2,hln,hnx]
        try simp only [Au.fC_next]
        exact MemFits.pre 3 rfl
  · have hii:i=cs.length:=by omega
    subst hii
    rw [List.take_length]
    (repeat' (first|(with_reducible first|(refine hK _ _ ?_;clear hK K)|(refine hB ?_;clear hA hB A B)|(refine hK _ ?_;clear hK K))|((with_reducible refine z25 ?_);intro K hK;(conv=>whnf))|(with_reducible refine z0 ?_)|((first|((with_reducible refine NIf.decN ?s ?_);case s=>omega)|((with_reducible refine NH.mk ?s ?_);case s=>(and_intros<;>omega)))<;>(conv=>whnf))|(with_reducible first|refine z3 ?_|refine z4 ?_|refine z7 ?_|refine z8 ?_)|((with_reducible refine z29 ?_);intro A B hA hB;(conv=>whnf))|(with_reducible first|refine z1 ?_|refine z2 ?_|refine z10 ?_|refine z11 ?_|refine z19 ?_)|((with_reducible refine gR ?_);(refine z31 rfl ?_;intro K hK;(conv=>whnf)))))
    exact ⟨G,w,hle,rfl,MemFits.pick [0,2] (by decide) rfl⟩
end Go.Proofs.Ytijkmhmgigaieaa
