import Derived.Test.YtijkmhmgigaieaaTc4
namespace Go.Proofs.Ytijkmhmgigaieaa
open Go.Sx
set_option maxRecDepth 20000
set_option linter.unusedSimpArgs false
set_option linter.unusedVariables false
set_option maxHeartbeats 4000000
set_option linter.unusedVariables false
namespace Tc
structure St where
  w:Value
  i:Nat
  ps:List L
  os:List O
def St.ok (l:List E) (x:St):Prop:=x.i≤l.length∧x.ps.map (·.x)=tr (l.take x.i)∧OpOk x.os (tr (l.take x.i))∧∀ o∈x.os,slOf o.v=o.v
theorem slOf_cut (v:Value) (sz lo hi:Nat):slOf (cutSl v sz lo hi)=cutSl v sz lo hi:=by
  unfold cutSl
  split<;>rfl
theorem fit_cells {h mp:Blk} {a:Addr} {cs1 cs2:List AV} {kd:Kind} {m:List Blk} (hc:denL cs1=denL cs2):MemFits (h::mp::⟨a,cs1,kd⟩::m) (h::mp::⟨a,cs2,kd⟩::m) :=
  MemFits.congr (by simp only [List.map_cons,hc])
theorem fit_back {h mp out sw:Blk} {t:TypeId} {os0 os1:List O} {o:O} (hp:(opB t os1).Perm (oB t o::opB t os0)) :
    MemFits [h,mp,out,sw,manyB (opB t os0),oB t o] [h,mp,out,sw,manyB (opB t os1)] :=
  MemFits.unfocus (m:=[h,mp,out,sw,manyB (opB t os0)]) (i:=4) rfl (opB_wr _ _) hp
theorem fit_new {h mp op:Blk} {a:Addr} {cs1 cs2:List AV} {kd:Kind} {t:TypeId} {ps:List L} {c:C} (hcs:c.sws=[]) (hc:denL cs1=denL cs2) :
    MemFits [h,mp,⟨a,cs1,kd⟩,manyB (swB t ps),op] [h,mp,⟨a,cs2,kd⟩,manyB (swB t (ps++[⟨c,.slice none 0 0⟩])),op]:=by
  have e:(own t ⟨c,.slice none 0 0⟩).blk=⟨⟨0,0,none⟩,[],.row (.slice none 0 0) t 1 0⟩:=by unfold own OwnR.blk;dsimp only;rw [hcs];rfl
  refine (fit_cells hc).trans ((MemFits.nilRow _ t 1).trans ?_)
  rw [← e]
  exact MemFits.unfocus (m:=[h,mp,⟨a,cs2,kd⟩,manyB (swB t ps),op]) (i:=3) rfl (swB_wr _ _) (swB_next t ps _)
theorem fit_sw {h mp op x y:Blk} {a:Addr} {cs1 cs2:List AV} {kd:Kind} {t:TypeId} {A B:List L} {p:L} (hc:denL cs1=denL cs2) :
    MemFits [h,mp,⟨a,cs1,kd⟩,manyB (swB t (A++p::B)),op,x,y] [h,mp,⟨a,cs2,kd⟩,manyB (swB t (A++B)),op,x,y,(own t p).blk] :=
  (fit_cells hc).trans (MemFits.focus (m:=[h,mp,⟨a,cs2,kd⟩,manyB (swB t (A++p::B)),op,x,y]) (i:=3) rfl (swB_wr _ _) (swB_mid t A B p))
theorem fit_swback {h mp op x:Blk} {a:Addr} {cs1 cs2:List AV} {kd:Kind} {t:TypeId} {A B:List L} {p:L} (hc:denL cs1=denL cs2) :
    MemFits [h,mp,⟨a,cs1,kd⟩,manyB (swB t (A++B)),op,x,(own t p).blk] [h,mp,⟨a,cs2,kd⟩,manyB (swB t (A++p::B)),op,x] :=
  (fit_cells hc).trans (MemFits.unfocus (m:=[h,mp,⟨a,cs2,kd⟩,manyB (swB t (A++B)),op,x]) (i:=3) rfl (swB_wr _ _) (swB_mid t A B p))
end Tc
theorem of41_c (F:Heap) (v:Value) (l:List Tc.E) (hv:Tc.ERow F v l) (hl:l.length≤1000) :
    NCall Try.prog 26 [.hs v l.length] [hpB F] fun r m=>Tc.Lays F (Tc.tr l) r m:=by
  refine Tc.rows_know (t:=67) (ti:=3) ?_
  have hok:=hv.ok
  have hu:Try.prog.underlying 84=some (.map 3 30):=by kernel_rfl
  have hz:zeroT Try.prog 30=some (.raw (.slice none 0 0)):=by kernel_rfl
  refine ncall_of Try.func26 rfl (by decide) ?_
  (repeat' (first|(((with_reducible refine NH.mk ?s ?_);case s=>(and_intros<;>omega))<;>(conv=>whnf))|(refine NMap.make ?_;intro b;conv=>whnf)))
  refine st_auto (α:=Tc.St) (Tc.St.ok l) (fun x=>[.keep,.keep,.keep,.set (.sl 2 x.w x.ps.length),.keep,.keep,.drop,.drop,.drop,.keep,.keep,.keep,.set (.int .i64 x.i),.drop,.drop,.drop,.drop,.drop,.drop,.drop,.drop,.drop,.drop,.drop,.drop,.drop,.drop,.drop,.drop,.drop,.drop,.drop,.drop,.drop,.drop,.drop,.drop,.drop,.drop,.drop,.drop,.drop,.drop,.drop,.drop,.drop,.drop,.drop,.drop,.drop,.drop,.drop,.drop,.drop,.drop,.drop,.drop,.drop,.drop,.drop,.drop,.drop,.drop,.drop,.drop,.drop,.drop,.drop,.drop,.drop,.drop,.drop,.drop,.drop,.drop,.drop,.drop,.drop,.drop,.drop,.drop,.drop,.drop,.drop,.drop,.drop,.drop,.drop,.drop,.drop,.drop,.drop,.drop,.drop,.drop,.drop,.drop,.drop,.drop,.drop,.drop,.drop,.drop,.drop,.drop,.drop,.drop,.drop,.drop,.drop,.keep])
    (fun x=>[.keep,.set (mapB b (Tc.openL x.os)),.set ⟨addrOf x.w,Tc.psC x.ps,.row x.w 67 8 x.ps.length⟩,.set (manyB (Tc.swB 3 x.ps)),.set (manyB (Tc.opB 3 x.os))]) (fun x=>l.length - x.i) ⟨.slice none 0 0,0,[],[]⟩ ⟨Nat.zero_le _,rfl,Tc.OpOk.nil,fun o h=>(by cases h)⟩ ?_ ((MemFits.nilRow _ 67 8).trans ((MemFits.noMany _).trans (MemFits.noMany _))) ?_
  · repeat (first|exact FitsSl.nil|refine FitsSl.any ?_|refine FitsSl.cons (Fit1.int (by first | rfl | omega)) ?_|refine FitsSl.cons (Fit1.same (by intro h;cases h) (by with_reducible rfl)) ?_|refine FitsSl.cons Fit1.nil_sl ?_)
  (intro ⟨w,i,ps,os⟩ ⟨hi,hps,hop,hsl⟩;intro K hK;(conv=>whnf);refine hK _ _ ?_;clear hK K)
  dsimp only at *
  rw [← hps] at hop
  have hsh:=Tc.tr_short (l.take i)
  rw [List.length_take,Nat.min_eq_left hi,← hps] at hsh
  have hpl:ps.length≤i:=by simpa using hsh.1
  have hpc:=Tc.psC_len ps
  have hones:=Tc.ones_psC ps
  by_cases hlt:i<l.length
  · have hx:l[i]?=some l[i]:=List.getElem?_eq_getElem hlt
    obtain ⟨c0,c1,c2,c3,c4,c5⟩:=hv.get hx
    have hnx:Tc.tr (l.take (i+1))=Tc.step (ps.map (·.x)) l[i]:=by rw [List.take_add_one,hx,Option.toList_some,Tc.tr_snoc,hps]
    generalize l[i]=e at *
    have hkey:(AV.int IntKind.i64 e.u).den = .int .i64 e.u:=by rw [AV.den]
    rcases Tc.find_u os e.u with hno | ⟨A,o,B,rfl,ho,hA⟩
    · have hst:Tc.stk (ps.map (·.x)) e.u=[]:=hop.none _ hno
      by_cases hk1:e.kind=1
      · have hop2:=fun v=>hop.more (e:=e) hno v
        have hnl:(ps++[⟨Tc.new e,.slice none 0 0⟩]:List Tc.L).length=ps.length+1:=by simp
        have hl1:(ps.map (·.x)).length=ps.length:=List.length_map _
        rw [hl1] at hop2
        rw [Tc.step_new hk1] at hnx
        have hd:denL (Tc.psC ps++[.int .i64 e.u,.int .i64 e.x,.int .i64 e.y,.int .i64 e.real,.raw (.slice none 0 0),.int .i64 0,.int .i64 0,.int .i64 e.real])=denL (Tc.psC (ps++[⟨Tc.new e,.slice none 0 0⟩])):=by rw [Tc.psC_next,denL_append,denL_append];rfl
        (repeat' (first|(with_reducible first|(refine hK _ _ ?_;clear hK K)|(refine hA ?_;clear hA hB A B)|(refine hK _ ?_;clear hK K))|((with_reducible refine z25 ?_);intro K hK;(conv=>whnf))|(with_reducible refine z0 ?_)|((first|((with_reducible refine NV.i64 ?s ?_);case s=>omega)|((with_reducible refine NIf.decY ?s ?_);case s=>first|assumption|omega)|(with_reducible first|refine NN.cast ?_|refine NN.a5 ?_|refine NN.keep ?_)|((with_reducible refine NH.mk ?s ?_);case s=>(and_intros<;>first|with_reducible rfl|((with_reducible refine gOnes ?_);rfl)|((with_reducible refine gLen ?_);rfl)|((with_reducible refine gKept ?_);exact rfl)|omega|rfl))|(with_reducible refine NLd.of (by with_reducible assumption) ?_))<;>(conv=>whnf))|(with_reducible refine st_ordSout ?_)|((with_reducible refine gNOK ?_);(first|(refine st_ordK1 rfl (by kernel_rfl) rfl ?_;intro K hK;(conv=>whnf))|refine st_ordK0 rfl (by kernel_rfl) ?_|refine st_ordKA rfl rfl (by kernel_rfl) (by intro h;cases h) ?_))|((with_reducible refine gNEK ?_);(first|(refine st_eachK ?_ ?_;(intro K hK;(conv=>whnf)))|exact st_eachK0))|(refine op_look_none (j:=1) hu hz rfl hno ?_;conv=>whnf)|(refine op_upd_new (j:=1) hu rfl hno hkey [ps.length] ?_;conv=>whnf)|((with_reducible refine gX ?_);(first|refine st_orderS [1,4] rfl rfl (by kernel_rfl) _ rfl ?_|(with_reducible first|refine z3 ?_|refine z4 ?_|refine z5 ?_|refine z6 ?_|refine z7 ?_)|((with_reducible refine z29 ?_);intro A B hA hB;(conv=>whnf))))|(with_reducible first|refine z1 ?_|refine z2 ?_|refine z10 ?_|refine z11 ?_)|((intro _;skip)<;>(conv=>whnf))))
        all_goals
          rename_i b5 b6 v7 b8 w2
          refine st_roundK fun ⟨W,hW⟩=>?_
          have hs7:slOf v7=v7:=(hW.row (List.mem_of_getElem? (i:=7) rfl)).2.2
          have h9:(AV.sl 7 v7 1).den=v7:=by rw [AV.den];exact hs7
          refine ⟨⟨w2,i+1,ps++[⟨Tc.new e,.slice none 0 0⟩],os++[⟨e.u,v7,[ps.length]⟩]⟩,⟨by show i+1≤l.length;omega,by rw [hnx];exact List.map_append,?_,fun o ho=>?_⟩,by show l.length - (i+1)<l.length - i;omega,?_,?_⟩
          · show Tc.OpOk _ (Tc.tr (l.take (i+1)))
            rw [hnx]
            exact hop2 v7
          · rcases List.mem_append.1 ho with ho | ho
            · exact hsl o ho
            · rw [List.mem_singleton.1 ho];exact hs7
          · repeat (first|exact FitsSl.nil|refine FitsSl.any ?_|refine FitsSl.cons (Fit1.int (by first | rfl | omega)) ?_|refine FitsSl.cons (Fit1.same (by intro h;cases h) (by with_reducible rfl)) ?_|refine FitsSl.cons (Fit1.sl rfl) ?_)
          · show MemFits _ [hpB F,mapB b (Tc.openL (os++[⟨e.u,v7,[ps.length]⟩])),⟨addrOf w2,Tc.psC (ps++[⟨Tc.new e,.slice none 0 0⟩]),.row w2 67 8 (ps++[(⟨Tc.new e,.slice none 0 0⟩:Tc.L)]).length⟩,manyB (Tc.swB 3 (ps++[⟨Tc.new e,.slice none 0 0⟩])),manyB (Tc.opB 3 (os++[⟨e.u,v7,[ps.length]⟩]))]
            rw [h9,hnl]
            exact (MemFits.pick [0,1,2,3,4,7] (by decide) rfl).trans ((Tc.fit_back (o:=⟨e.u,v7,[ps.length]⟩) (os0:=os) (Tc.opB_next _ os _)).trans (Tc.fit_new (c:=Tc.new e) rfl hd))
      · rw [Tc.step_none hk1 (.inr (.inr hst))] at hnx
        (repeat' (first|(with_reducible first|(refine hK _ _ ?_;clear hK K)|(refine hA ?_;clear hA hB A B)|(refine hB ?_;clear hA hB A B))|((with_reducible first|refine z25 ?_|refine z26 ?_);intro K hK;(conv=>whnf))|(with_reducible refine z0 ?_)|((first|((with_reducible refine NV.i64 ?s ?_);case s=>omega)|((with_reducible refine NIf.decY ?s ?_);case s=>omega)|((with_reducible refine NIf.decN ?s ?_);case s=>assumption)|((with_reducible refine NIf.yes ?s ?_);case s=>rfl)|(with_reducible first|refine NN.cast ?_|refine NN.a5 ?_|refine NN.keep ?_)|((with_reducible refine NH.mk ?s ?_);case s=>(and_intros<;>first|with_reducible rfl|((with_reducible refine gOnes ?_);rfl)|((with_reducible refine gLen ?_);rfl)|omega))|(with_reducible refine NLd.of (by with_reducible assumption) ?_))<;>(conv=>whnf))|(refine op_look_none (j:=1) hu hz rfl hno ?_;conv=>whnf)|(with_reducible first|refine z3 ?_|refine z4 ?_|refine z5 ?_|refine z6 ?_|refine z7 ?_)|((with_reducible refine z29 ?_);intro A B hA hB;(conv=>whnf))|(with_reducible first|refine z1 ?_|refine z2 ?_|refine z10 ?_|refine z11 ?_)|((intro _;skip)<;>(conv=>whnf))))
        refine st_round ⟨w,i+1,ps,os⟩ ⟨by show i+1≤l.length;omega,hnx.symm,by show Tc.OpOk os (Tc.tr (l.take (i+1)));rw [hnx];exact hop,hsl⟩ (by show l.length - (i+1)<l.length - i;omega) ?_ (MemFits.pre 5 rfl)
        repeat (first|exact FitsSl.nil|refine FitsSl.any ?_|refine FitsSl.cons (Fit1.int (by first | rfl | omega)) ?_|refine FitsSl.cons (Fit1.same (by intro h;cases h) (by with_reducible rfl)) ?_)
    · have hso:slOf o.v=o.v:=hsl o (by simp)
      have hst:o.l=Tc.stk (ps.map (·.x)) e.u:=by rw [← ho];exact hop.same o (by simp)
      have hol:o.l.length≤1000:=by
        have:=Tc.stk_len (ps.map (·.x)) e.u
        rw [← hst,List.length_map] at this
        omega
      have hkey2:(AV.int IntKind.i64 e.u).den = .int .i64 o.u:=by rw [ho,AV.den]
      have hA2:∀ a∈A,a.u≠o.u:=fun a ha=>by rw [ho];exact hA a ha
      by_cases hk1:e.kind=1
      · have hop2:=fun v=>hop.push (e:=e) ho v
        have hnl:(ps++[⟨Tc.new e,.slice none 0 0⟩]:List Tc.L).length=ps.length+1:=by simp
        have hl1:(ps.map (·.x)).length=ps.length:=List.length_map _
        rw [hl1] at hop2
        rw [Tc.step_new hk1] at hnx
        have hd:denL (Tc.psC ps++[.int .i64 e.u,.int .i64 e.x,.int .i64 e.y,.int .i64 e.real,.raw (.slice none 0 0),.int .i64 0,.int .i64 0,.int .i64 e.real])=denL (Tc.psC (ps++[⟨Tc.new e,.slice none 0 0⟩])):=by rw [Tc.psC_next,denL_append,denL_append];rfl
        have hoB:∀ v2,Tc.oB 3 ⟨o.u,v2,o.l++[ps.length]⟩=⟨addrOf v2,Tc.nv o.l++[.int .i64 ps.length],.row v2 3 1 (o.l.length+1)⟩:=fun v2=>by
          unfold Tc.oB
          rw [Tc.nv_next,List.length_append]
          rfl
        (repeat' (first|(with_reducible first|(refine hK _ _ ?_;clear hK K)|(refine hA ?_;clear hA hB A B)|(refine hK _ ?_;clear hK K))|((with_reducible refine z25 ?_);intro K hK;(conv=>whnf))|(with_reducible refine z0 ?_)|((first|((with_reducible refine NV.i64 ?s ?_);case s=>omega)|((with_reducible refine NIf.decY ?s ?_);case s=>first|assumption|omega)|(with_reducible first|refine NN.cast ?_|refine NN.a5 ?_|refine NN.keep ?_)|((with_reducible refine NH.mk ?s ?_);case s=>(and_intros<;>first|with_reducible rfl|((with_reducible refine gOnes ?_);rfl)|((with_reducible refine gLen ?_);rfl)|((with_reducible refine gKept ?_);exact rfl)|omega|rfl))|(with_reducible refine NLd.of (by with_reducible assumption) ?_))<;>(conv=>whnf))|(with_reducible refine st_ordSout ?_)|((with_reducible refine gNOK ?_);(first|(refine st_ordK1 rfl (by kernel_rfl) rfl ?_;intro K hK;(conv=>whnf))|refine st_ordK0 rfl (by kernel_rfl) ?_|refine st_ordKA rfl rfl (by kernel_rfl) (by intro h;cases h) ?_))|((with_reducible refine gNEK ?_);(first|(refine st_eachK ?_ ?_;(intro K hK;(conv=>whnf)))|exact st_eachK0))|(refine op_look_some (j:=1) (jf:=4) hu rfl hA2 ho rfl (by decide) ?_ (fun _=>hso);conv=>whnf)|(refine op_upd_old (j:=1) hu rfl hA2 hkey2 (o.l++[ps.length]) ?_;conv=>whnf)|((with_reducible refine gX ?_);(first|refine st_orderS [1,4] rfl rfl (by kernel_rfl) _ rfl ?_|(with_reducible first|refine z3 ?_|refine z4 ?_|refine z5 ?_|refine z6 ?_|refine z7 ?_)|((with_reducible refine z29 ?_);intro A B hA hB;(conv=>whnf))))|(with_reducible first|refine z1 ?_|refine z2 ?_|refine z10 ?_|refine z11 ?_)|((intro _;skip)<;>(conv=>whnf))))
        all_goals
          rename_i b5 b6 v7 b8 w2
          refine st_roundK fun ⟨W,hW⟩=>?_
          have hs7:slOf v7=v7:=by first | exact (hW.row (List.mem_of_getElem? (i:=7) rfl)).2.2 | exact (hW.row (List.mem_of_getElem? (i:=6) rfl)).2.2
          have h9:∀ j,(AV.sl j v7 (o.l.length+1)).den=v7:=fun j=>by rw [AV.den];exact hs7
          refine ⟨⟨w2,i+1,ps++[⟨Tc.new e,.slice none 0 0⟩],A++⟨o.u,v7,o.l++[ps.length]⟩::B⟩,⟨by show i+1≤l.length;omega,by rw [hnx];exact List.map_append,?_,fun o2 ho2=>?_⟩,by show l.length - (i+1)<l.length - i;omega,?_,?_⟩
          · show Tc.OpOk _ (Tc.tr (l.take (i+1)))
            rw [hnx]
            exact hop2 v7
          · rcases List.mem_append.1 ho2 with ho2 | ho2
            · exact hsl o2 (by simp [ho2])
            · rcases List.mem_cons.1 ho2 with rfl | ho2
              · exact hs7
              · exact hsl o2 (by simp [ho2])
          · repeat (first|exact FitsSl.nil|refine FitsSl.any ?_|refine FitsSl.cons (Fit1.int (by first | rfl | omega)) ?_|refine FitsSl.cons (Fit1.same (by intro h;cases h) (by with_reducible rfl)) ?_|refine FitsSl.cons (Fit1.sl rfl) ?_)
          · show MemFits _ [hpB F,mapB b (Tc.openL (A++⟨o.u,v7,o.l++[ps.length]⟩::B)),⟨addrOf w2,Tc.psC (ps++[⟨Tc.new e,.slice none 0 0⟩]),.row w2 67 8 (ps++[(⟨Tc.new e,.slice none 0 0⟩:Tc.L)]).length⟩,manyB (Tc.swB 3 (ps++[⟨Tc.new e,.slice none 0 0⟩])),manyB (Tc.opB 3 (A++⟨o.u,v7,o.l++[ps.length]⟩::B))]
            rw [h9,hnl]
            have hb:=(Tc.fit_back (h:=hpB F) (mp:=mapB b (Tc.openL (A++⟨o.u,v7,o.l++[ps.length]⟩::B))) (out:=⟨addrOf w2,Tc.psC ps++[.int .i64 e.u,.int .i64 e.x,.int .i64 e.y,.int .i64 e.real,.raw (.slice none 0 0),.int .i64 0,.int .i64 0,.int .i64 e.real],.row w2 67 8 (ps.length+1)⟩) (sw:=manyB (Tc.swB 3 ps)) (o:=⟨o.u,v7,o.l++[ps.length]⟩) (os0:=A++B) (Tc.opB_mid 3 A B _)).trans (Tc.fit_new (c:=Tc.new e) rfl hd)
            rw [hoB] at hb
            first | exact (MemFits.pick [0,1,2,3,4,7] (by decide) rfl).trans hb | exact (MemFits.pick [0,1,2,3,4,6] (by decide) rfl).trans hb
      · by_cases hsk:e.kind<2∨4<e.kind∨o.l.length=0
        · have hsk2:e.kind<2∨4<e.kind∨Tc.stk (ps.map (·.x)) e.u=[]:=by
            rw [← hst]
            exact hsk.imp_right fun h=>h.imp_right List.length_eq_zero_iff.1
          rw [Tc.step_none hk1 hsk2] at hnx
          (repeat' (first|(with_reducible first|(refine hK _ _ ?_;clear hK K)|(refine hA ?_;clear hA hB A B)|(refine hB ?_;clear hA hB A B))|((with_reducible first|refine z25 ?_|refine z26 ?_);intro K hK;(conv=>whnf))|(with_reducible refine z0 ?_)|((first|((with_reducible refine NV.i64 ?s ?_);case s=>omega)|((with_reducible refine NIf.decY ?s ?_);case s=>first|assumption|omega)|((with_reducible refine NIf.decN ?s ?_);case s=>assumption)|((with_reducible refine NIf.yes ?s ?_);case s=>rfl)|(with_reducible first|refine NIf.dec (fun _=>?_) (fun _=>?_)|refine NN.cast ?_|refine NN.a5 ?_|refine NN.keep ?_)|((with_reducible refine NH.mk ?s ?_);case s=>(and_intros<;>first|with_reducible rfl|((with_reducible refine gOnes ?_);rfl)|((with_reducible refine gLen ?_);rfl)|omega))|(with_reducible refine NLd.of (by with_reducible assumption) ?_))<;>(conv=>whnf))|(refine op_look_some (j:=1) (jf:=4) hu rfl hA2 ho rfl (by decide) ?_ (fun _=>hso);conv=>whnf)|(with_reducible first|refine z3 ?_|refine z4 ?_|refine z5 ?_|refine z6 ?_|refine z7 ?_)|((with_reducible refine z29 ?_);intro A B hA hB;(conv=>whnf))|(with_reducible first|refine z1 ?_|refine z2 ?_|refine z10 ?_|refine z11 ?_)|((intro _;skip)<;>(conv=>whnf))))
          all_goals first | (exfalso;omega) | skip
          all_goals
            refine st_round ⟨w,i+1,ps,A++o::B⟩ ⟨by show i+1≤l.length;omega,hnx.symm,by show Tc.OpOk _ (Tc.tr (l.take (i+1)));rw [hnx];exact hop,hsl⟩ (by show l.length - (i+1)<l.length - i;omega) ?_ ((MemFits.pick [0,1,2,3,4,6] (by decide) rfl).trans (Tc.fit_back (Tc.opB_mid _ A B o)))
            repeat (first|exact FitsSl.nil|refine FitsSl.any ?_|refine FitsSl.cons (Fit1.int (by first | rfl | omega)) ?_|refine FitsSl.cons (Fit1.same (by intro h;cases h) (by with_reducible rfl)) ?_)
        · obtain ⟨l',k,hok'⟩:∃ l' k,o.l=l'++[k]:=by
            rcases List.eq_nil_or_concat o.l with h4 | ⟨l',k,h4⟩
            · exact (hsk (.inr (.inr (by rw [h4];rfl)))).elim
            · exact ⟨l',k,by rw [h4,List.concat_eq_append]⟩
          have hst2:=hst.symm
          rw [hok'] at hst2
          obtain ⟨c,hc,_,_⟩:=Tc.stk_at hst2
          rw [Tc.step_upd (by omega) (by omega) hst2 hc] at hnx
          have hp:∃ p,ps[k]?=some p∧p.x=c:=by
            rw [List.getElem?_map] at hc
            cases hq:ps[k]? with
            | none=>rw [hq] at hc;cases hc
            | some p=>rw [hq] at hc;exact ⟨p,rfl,by simpa using hc⟩
          obtain ⟨p,hp,rfl⟩:=hp
          obtain ⟨A',B',hAB,hA'⟩:=Tc.split_at hp
          have hnx2:∀ v2:Value,(A'++⟨Tc.upd e p.x,v2⟩::B':List Tc.L).map (·.x)=Tc.tr (l.take (i+1)):=fun v2=>by
            rw [hnx,hAB]
            simp [← hA']
          have hkl2:k<ps.length:=(List.getElem?_eq_some_iff.1 hp).1
          have hsw:p.x.sws.length≤1000:=Nat.le_trans (hsh.2 p.x (List.mem_map.2 ⟨p,List.mem_of_getElem? hp,rfl⟩)) (by omega)
          have hA8:(Tc.psC A').length=k*8:=by rw [Tc.psC_len,hA']
          have hlen:∀ p':Tc.L,(A'++p'::B').length=ps.length:=fun p'=>by rw [hAB];simp
          have hlo:o.l.length=l'.length+1:=by rw [hok'];simp
          have hnv:(Tc.nv o.l)[l'.length]?=some (.int .i64 k):=by rw [hok'];exact Tc.nv_last l' k
          rw [show Tc.psC ps=Tc.psC A'++(Tc.cs p.x p.v++Tc.psC B') by rw [hAB,Tc.psC_mid]]
          clear hpc hones hsh hst
          by_cases hk2:e.kind=2
          · have hopk:=hop.keep (e:=e) hc hk2
            rw [← hnx] at hopk
            rw [show Tc.swB 3 ps=Tc.swB 3 (A'++p::B') by rw [hAB]]
            have hu2:∀ v2,denL ((Tc.csJ 7 { p.x with last:=e.real } p.v).set 4 (.sl 7 v2 (p.x.sws.length+1)))=denL (Tc.cs (Tc.upd e p.x) v2):=fun v2=>by
              unfold Tc.upd Tc.cs
              rw [if_pos hk2,if_pos hk2,if_neg (by omega)]
              rfl
            have hback:∀ v2,denL (Tc.psC A'++((Tc.csJ 7 { p.x with last:=e.real } p.v).set 4 (.sl 7 v2 (p.x.sws.length+1))++Tc.psC B'))=denL (Tc.psC (A'++⟨Tc.upd e p.x,v2⟩::B')):=fun v2=>by
              rw [Tc.psC_mid,denL_append,denL_append,denL_append,denL_append,hu2 v2]
            have hown:∀ v2,(Tc.own 3 ⟨Tc.upd e p.x,v2⟩).blk=⟨addrOf v2,Tc.av p.x.sws++[.int .i64 e.sw],.row v2 3 1 (p.x.sws.length+1)⟩:=fun v2=>by
              have h8:(Tc.upd e p.x).sws=p.x.sws++[e.sw]:=if_pos hk2
              unfold Tc.own OwnR.blk
              dsimp only
              rw [h8,Tc.av_next,List.length_append]
              rfl
            (repeat' (first|(with_reducible first|(refine hK _ _ ?_;clear hK K)|(refine hA ?_;clear hA hB A B)|(refine hB ?_;clear hA hB A B)|(refine hK _ ?_;clear hK K))|((with_reducible refine gO ?_);(first|((with_reducible first|refine z25 ?_|refine z26 ?_);intro K hK;(conv=>whnf))|(with_reducible refine z0 ?_)))|((first|((with_reducible refine gV ?_);(((with_reducible refine NV.i64 ?s ?_);case s=>omega)))|((with_reducible refine gI ?_);(first|((with_reducible refine NIf.decY ?s ?_);case s=>first|assumption|omega)|((with_reducible refine NIf.decN ?s ?_);case s=>first|assumption|omega)))|((with_reducible refine gN ?_);(first|(((with_reducible refine NN.eq (n:=l'.length) ?side ?_);case side=>omega))|(with_reducible first|refine NN.cast ?_|refine NN.a5 ?_|refine NN.a6 ?_|refine NN.keep ?_)))|((with_reducible refine gH ?_);((with_reducible refine NH.mk ?s ?_);case s=>(and_intros<;>first|with_reducible rfl|((with_reducible refine gOnes ?_);rfl)|((with_reducible refine gLen ?_);rfl)|omega|(simp only [List.length_append,List.length_cons,List.length_nil];omega)|rfl)))|(with_reducible refine NLd.of (by with_reducible assumption) ?_))<;>(conv=>whnf))|((refine nthK.of (hnv) ?_)<;>(conv=>whnf))|((refine nthK.of (Tc.nth_mid (j:=4) hA8 (Nat.le_of_ble_eq_true rfl)) ?_)<;>(conv=>whnf))|((with_reducible refine gNO ?_);(first|(refine z36 rfl (by kernel_rfl) ?_;intro K hK;(conv=>whnf))|(refine z38 rfl (by kernel_rfl) ?_)|(refine z39 rfl rfl (by kernel_rfl) (by intro h;cases h) ?_)))|((with_reducible refine gNE ?_);(first|(refine z40 ?_ ?_;(intro K hK;(conv=>whnf)))|exact z42))|(refine op_look_some (j:=1) (jf:=4) hu rfl hA2 ho rfl (by decide) ?_ (fun _=>hso);conv=>whnf)|(refine Tc.put_mid hA8 (Nat.le_of_ble_eq_true rfl) ?_;conv=>whnf)|((with_reducible refine gX ?_);(first|(refine st_drawFits (m:=[hpB F,_,_,manyB (Tc.swB 3 (A'++p::B')),_,_,_]) (m':=[hpB F,_,⟨addrOf w,Tc.psC A'++(Tc.csJ 7 { p.x with last:=e.real } p.v++Tc.psC B'),.row w 67 8 ps.length⟩,manyB (Tc.swB 3 (A'++B')),_,_,_,(Tc.own 3 p).blk]) (FitsSl.refl _) (Tc.fit_sw (by rw [denL_append,denL_append,denL_append,denL_append];rfl)) ?_)|(refine z35 (by kernel_rfl) _ rfl ?_)|(with_reducible first|refine z3 ?_|refine z4 ?_|refine z5 ?_|refine z6 ?_|refine z7 ?_)|((with_reducible refine z29 ?_);intro A B hA hB;(conv=>whnf))))|(with_reducible first|refine z1 ?_|refine z2 ?_|refine z10 ?_|refine z11 ?_)|((intro _;skip)<;>(conv=>whnf))))
            all_goals
              rename_i b5 b8 v2
              refine st_round ⟨w,i+1,A'++⟨Tc.upd e p.x,v2⟩::B',A++o::B⟩ ⟨by show i+1≤l.length;omega,hnx2 v2,hopk,hsl⟩ (by show l.length - (i+1)<l.length - i;omega) ?_ ?_
              · repeat (first|exact FitsSl.nil|refine FitsSl.any ?_|refine FitsSl.cons (Fit1.int (by first | rfl | omega)) ?_|refine FitsSl.cons (Fit1.same (by intro h;cases h) (by with_reducible rfl)) ?_|refine FitsSl.cons (Fit1.sl rfl) ?_)
              · show MemFits _ [hpB F,mapB b (Tc.openL (A++o::B)),⟨addrOf w,Tc.psC (A'++⟨Tc.upd e p.x,v2⟩::B'),.row w 67 8 (A'++⟨Tc.upd e p.x,v2⟩::B').length⟩,manyB (Tc.swB 3 (A'++⟨Tc.upd e p.x,v2⟩::B')),manyB (Tc.opB 3 (A++o::B))]
                rw [hlen]
                have hb:=(Tc.fit_swback (h:=hpB F) (mp:=mapB b (Tc.openL (A++o::B))) (op:=manyB (Tc.opB 3 (A++B))) (x:=Tc.oB 3 o) (a:=addrOf w) (kd:=.row w 67 8 ps.length) (t:=3) (A:=A') (B:=B') (p:=⟨Tc.upd e p.x,v2⟩) (hback v2)).trans (Tc.fit_back (os0:=A++B) (o:=o) (Tc.opB_mid 3 A B o))
                rw [hown] at hb
                exact (MemFits.pick [0,1,2,3,4,6,7] (by decide) rfl).trans hb
          · have hopk:=fun v=>hop.pop (e:=e) ho hok' hc (by omega) v
            rw [← hnx] at hopk
            have hsame:(Tc.upd e p.x).sws=p.x.sws:=if_neg hk2
            have hsw2:Tc.swB 3 (A'++⟨Tc.upd e p.x,p.v⟩::B')=Tc.swB 3 ps:=by
              rw [hAB]
              unfold Tc.swB Tc.own
              simp only [List.map_append,List.map_cons,hsame]
            have hupd:Tc.cs (Tc.upd e p.x) p.v=[.int .i64 p.x.id,.int .i64 p.x.fr,.int .i64 p.x.to,.int .i64 p.x.at_,.hs p.v p.x.sws.length,.int .i64 e.kind,.int .i64 (if e.kind=3 then e.x else p.x.host),.int .i64 e.real]:=by
              unfold Tc.cs
              rw [hsame]
              unfold Tc.upd
              dsimp only
              rw [if_neg hk2]
            have h9:(AV.view 6 o.v 1 0 l'.length).den=cutSl o.v 1 0 l'.length:=by rw [AV.den]
            have hsl2:∀ o2∈A++⟨o.u,cutSl o.v 1 0 l'.length,l'⟩::B,slOf o2.v=o2.v:=fun o2 ho2=>by
              rcases List.mem_append.1 ho2 with ho2 | ho2
              · exact hsl o2 (by simp [ho2])
              · rcases List.mem_cons.1 ho2 with rfl | ho2
                · exact Tc.slOf_cut _ _ _ _
                · exact hsl o2 (by simp [ho2])
            have hden:denL (Tc.nv l')=(denL (Tc.nv o.l)).take (l'.length*1):=by
              rw [hok',Tc.nv_next,denL_append,List.take_append_of_le_length (by rw [denL_length,Tc.nv_len];omega),List.take_of_length_le (by rw [denL_length,Tc.nv_len];omega)]
            have hcut:∀ {h mp out sw op:Blk},MemFits [h,mp,out,sw,op,Tc.oB 3 o] [h,mp,out,sw,op,Tc.oB 3 ⟨o.u,cutSl o.v 1 0 l'.length,l'⟩]:=fun {h mp out sw op}=>MemFits.cutAt (m:=[h,mp,out,sw,op,Tc.oB 3 o]) (i:=5) (k:=l'.length) rfl (by omega) hden
            by_cases hk3:e.kind=3
            · rw [if_pos hk3] at hupd
              (repeat' (first|(with_reducible first|(refine hK _ _ ?_;clear hK K)|(refine hA ?_;clear hA hB A B)|(refine hB ?_;clear hA hB A B)|(refine hK _ ?_;clear hK K))|((with_reducible refine gO ?_);(first|((with_reducible first|refine z25 ?_|refine z26 ?_);intro K hK;(conv=>whnf))|(with_reducible refine z0 ?_)))|((first|((with_reducible refine gV ?_);(((with_reducible refine NV.i64 ?s ?_);case s=>omega)))|((with_reducible refine gI ?_);(first|((with_reducible refine NIf.decY ?s ?_);case s=>first|assumption|omega)|((with_reducible refine NIf.decN ?s ?_);case s=>first|assumption|omega)))|((with_reducible refine gN ?_);(first|(((with_reducible refine NN.eq (n:=l'.length) ?side ?_);case side=>omega))|(with_reducible first|refine NN.cast ?_|refine NN.a5 ?_|refine NN.a6 ?_|refine NN.keep ?_)))|((with_reducible refine gH ?_);((with_reducible refine NH.mk ?s ?_);case s=>(and_intros<;>first|with_reducible rfl|((with_reducible refine gOnes ?_);rfl)|((with_reducible refine gLen ?_);rfl)|((with_reducible refine gKept ?_);exact rfl)|omega|rfl)))|(with_reducible refine NLd.of (by with_reducible assumption) ?_))<;>(conv=>whnf))|((refine nthK.of (hnv) ?_)<;>(conv=>whnf))|((with_reducible refine gNRK ?_);((with_reducible refine st_ordSout ?_)))|((with_reducible refine gNOK ?_);(first|(refine st_ordK1 rfl (by kernel_rfl) rfl ?_;intro K hK;(conv=>whnf))|(refine st_ordK0 rfl (by kernel_rfl) ?_)|(refine st_ordKA rfl rfl (by kernel_rfl) (by intro h;cases h) ?_)))|((with_reducible refine gNEK ?_);(first|(refine st_eachK ?_ ?_;(intro K hK;(conv=>whnf)))|exact st_eachK0))|(refine op_look_some (j:=1) (jf:=4) hu rfl hA2 ho rfl (by decide) ?_ (fun _=>hso);conv=>whnf)|(refine Tc.put_mid hA8 (Nat.le_of_ble_eq_true rfl) ?_;conv=>whnf)|(refine op_upd_old (j:=1) hu rfl hA2 hkey2 l' ?_;conv=>whnf)|((with_reducible refine gX ?_);(first|(refine st_orderS [1] rfl rfl (by kernel_rfl) _ rfl ?_)|(with_reducible first|refine z3 ?_|refine z4 ?_|refine z5 ?_|refine z6 ?_)|((with_reducible refine z29 ?_);intro A B hA hB;(conv=>whnf))))|(with_reducible first|refine z1 ?_|refine z2 ?_|refine z9 ?_)|((intro _;skip)<;>(conv=>whnf))))
              all_goals
                refine st_round ⟨w,i+1,A'++⟨Tc.upd e p.x,p.v⟩::B',A++⟨o.u,cutSl o.v 1 0 l'.length,l'⟩::B⟩ ⟨by show i+1≤l.length;omega,hnx2 p.v,hopk _,hsl2⟩ (by show l.length - (i+1)<l.length - i;omega) ?_ ?_
                · repeat (first|exact FitsSl.nil|refine FitsSl.any ?_|refine FitsSl.cons (Fit1.int (by first | rfl | omega)) ?_|refine FitsSl.cons (Fit1.same (by intro h;cases h) (by with_reducible rfl)) ?_|refine FitsSl.cons (Fit1.sl rfl) ?_)
                · show MemFits _ [hpB F,mapB b (Tc.openL (A++⟨o.u,cutSl o.v 1 0 l'.length,l'⟩::B)),⟨addrOf w,Tc.psC (A'++⟨Tc.upd e p.x,p.v⟩::B'),.row w 67 8 (A'++⟨Tc.upd e p.x,p.v⟩::B').length⟩,manyB (Tc.swB 3 (A'++⟨Tc.upd e p.x,p.v⟩::B')),manyB (Tc.opB 3 (A++⟨o.u,cutSl o.v 1 0 l'.length,l'⟩::B))]
                  rw [hlen,hsw2,Tc.psC_mid,hupd,h9]
                  exact (MemFits.pick [0,1,2,3,4,6] (by decide) rfl).trans (hcut.trans (Tc.fit_back (os0:=A++B) (o:=⟨o.u,cutSl o.v 1 0 l'.length,l'⟩) (Tc.opB_mid 3 A B _)))
            · rw [if_neg hk3] at hupd
              (repeat' (first|(with_reducible first|(refine hK _ _ ?_;clear hK K)|(refine hA ?_;clear hA hB A B)|(refine hB ?_;clear hA hB A B)|(refine hK _ ?_;clear hK K))|((with_reducible refine gO ?_);(first|((with_reducible first|refine z25 ?_|refine z26 ?_);intro K hK;(conv=>whnf))|(with_reducible refine z0 ?_)))|((first|((with_reducible refine gV ?_);(((with_reducible refine NV.i64 ?s ?_);case s=>omega)))|((with_reducible refine gI ?_);(first|((with_reducible refine NIf.decY ?s ?_);case s=>omega)|((with_reducible refine NIf.decN ?s ?_);case s=>first|assumption|omega)))|((with_reducible refine gN ?_);(first|(((with_reducible refine NN.eq (n:=l'.length) ?side ?_);case side=>omega))|(with_reducible first|refine NN.cast ?_|refine NN.a5 ?_|refine NN.a6 ?_|refine NN.keep ?_)))|((with_reducible refine gH ?_);((with_reducible refine NH.mk ?s ?_);case s=>(and_intros<;>first|with_reducible rfl|((with_reducible refine gOnes ?_);rfl)|((with_reducible refine gLen ?_);rfl)|((with_reducible refine gKept ?_);exact rfl)|omega|rfl)))|(with_reducible refine NLd.of (by with_reducible assumption) ?_))<;>(conv=>whnf))|((refine nthK.of (hnv) ?_)<;>(conv=>whnf))|((with_reducible refine gNRK ?_);((with_reducible refine st_ordSout ?_)))|((with_reducible refine gNOK ?_);(first|(refine st_ordK1 rfl (by kernel_rfl) rfl ?_;intro K hK;(conv=>whnf))|(refine st_ordK0 rfl (by kernel_rfl) ?_)|(refine st_ordKA rfl rfl (by kernel_rfl) (by intro h;cases h) ?_)))|((with_reducible refine gNEK ?_);(first|(refine st_eachK ?_ ?_;(intro K hK;(conv=>whnf)))|exact st_eachK0))|(refine op_look_some (j:=1) (jf:=4) hu rfl hA2 ho rfl (by decide) ?_ (fun _=>hso);conv=>whnf)|(refine Tc.put_mid hA8 (Nat.le_of_ble_eq_true rfl) ?_;conv=>whnf)|(refine op_upd_old (j:=1) hu rfl hA2 hkey2 l' ?_;conv=>whnf)|((with_reducible refine gX ?_);(first|(refine st_orderS [1] rfl rfl (by kernel_rfl) _ rfl ?_)|(with_reducible first|refine z3 ?_|refine z4 ?_|refine z5 ?_|refine z6 ?_)|((with_reducible refine z29 ?_);intro A B hA hB;(conv=>whnf))))|(with_reducible first|refine z1 ?_|refine z2 ?_|refine z9 ?_)|((intro _;skip)<;>(conv=>whnf))))
              all_goals
                refine st_round ⟨w,i+1,A'++⟨Tc.upd e p.x,p.v⟩::B',A++⟨o.u,cutSl o.v 1 0 l'.length,l'⟩::B⟩ ⟨by show i+1≤l.length;omega,hnx2 p.v,hopk _,hsl2⟩ (by show l.length - (i+1)<l.length - i;omega) ?_ ?_
                · repeat (first|exact FitsSl.nil|refine FitsSl.any ?_|refine FitsSl.cons (Fit1.int (by first | rfl | omega)) ?_|refine FitsSl.cons (Fit1.same (by intro h;cases h) (by with_reducible rfl)) ?_|refine FitsSl.cons (Fit1.sl rfl) ?_)
                · show MemFits _ [hpB F,mapB b (Tc.openL (A++⟨o.u,cutSl o.v 1 0 l'.length,l'⟩::B)),⟨addrOf w,Tc.psC (A'++⟨Tc.upd e p.x,p.v⟩::B'),.row w 67 8 (A'++⟨Tc.upd e p.x,p.v⟩::B').length⟩,manyB (Tc.swB 3 (A'++⟨Tc.upd e p.x,p.v⟩::B')),manyB (Tc.opB 3 (A++⟨o.u,cutSl o.v 1 0 l'.length,l'⟩::B))]
                  rw [hlen,hsw2,Tc.psC_mid,hupd,h9]
                  exact (MemFits.pick [0,1,2,3,4,6] (by decide) rfl).trans (hcut.trans (Tc.fit_back (os0:=A++B) (o:=⟨o.u,cutSl o.v 1 0 l'.length,l'⟩) (Tc.opB_mid 3 A B _)))
  · have hii:i=l.length:=by omega
    rw [hii,List.take_length] at hps
    (repeat' (first|(with_reducible first|(refine hK _ _ ?_;clear hK K)|(refine hB ?_;clear hA hB A B))|((with_reducible refine z25 ?_);intro K hK;(conv=>whnf))|(with_reducible refine z0 ?_)|(((with_reducible refine NIf.decN ?s ?_);case s=>omega)<;>(conv=>whnf))|(with_reducible first|refine z3 ?_|refine z4 ?_|refine z7 ?_|refine z8 ?_)|((with_reducible refine z29 ?_);intro A B hA hB;(conv=>whnf))|(with_reducible first|refine z1 ?_|refine z2 ?_|refine z11 ?_|refine z19 ?_)))
    exact ⟨w,ps,hps,rfl,MemFits.pick [0,2,3] (by decide) rfl⟩
end Go.Proofs.Ytijkmhmgigaieaa
