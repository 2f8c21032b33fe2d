import Derived.Test.YtijkmhmgigaieaaRt5p
import Derived.Test.YtijkmhmgigaieaaRt4
import Derived.Test.YtijkmhmgigaieaaRt3
import Derived.Test.YtijkmhmgigaieaaTp4
namespace Go.Proofs.Ytijkmhmgigaieaa
open Go.Sx
set_option maxRecDepth 20000
set_option linter.unusedSimpArgs false
set_option linter.unusedVariables false
set_option maxHeartbeats 4000000
set_option linter.unusedVariables false
set_option linter.unnecessarySimpa false
theorem refright21_c (F:Heap) (t:Tp.T) (lv hv v:Value) (r:List (List Int)) (ht:Tp.At F t lv hv) (hl:t.ls.length≤1000) (hh:t.hs.length≤1000) (hr:Rt.Row F v r) (hf:Rt.few r) :
    NCall Try.prog 23 [.agg (Tp.cs t lv hv),.hs v r.length] [hpB F] fun u m=>u = .bool (Rt.right t r)∧m=[hpB F]:=by
  refine NCall.fits (K:=fun u m=>u = .bool (Rt.right t r)∧MemFits m [hpB F]) ?_ fun r m' h=>⟨r,_,rfl,h.2,h.1,rfl⟩
  have ct:=reftopo17_c F t lv hv ht hl hh
  have hlo:=ht.l.ok
  have hho:=ht.h.ok
  have hok:=hr.ok
  have hf1:=hf.1
  have hf2:=hf.2
  have he:Rt.right t r=(Tp.right t&&(decide ((r.length:Int)=t.n)&&r.all (Rt.rowOk t.hs.length))):=rfl
  rw [he]
  unfold Tp.cs at ct ⊢
  generalize Tp.right t=tr at *
  refine ncall_of Try.func23 rfl (by decide) ?_
  cases tr with
  | false =>
    rw [Bool.false_and]
    (repeat' (first|(with_reducible first|(refine hK _ _ ?_;clear hK K)|(refine hA ?_;clear hA hB A B)|(refine hK _ ?_;clear hK K))|((with_reducible first|refine z25 ?_|refine z26 ?_);intro K hK;(conv=>whnf))|(with_reducible refine z0 ?_)|((first|with_reducible refine NIf.not_ ?_|((with_reducible refine NIf.yes ?s ?_);case s=>rfl)|((with_reducible refine NIf.no ?s ?_);case s=>rfl)|((with_reducible refine NH.mk ?s ?_);case s=>(and_intros<;>with_reducible rfl))|((with_reducible refine NCall.isF 38 ?_);refine NCall.subE [0] (ct) rfl (by decide) rfl rfl ?_))<;>(conv=>whnf))|(with_reducible first|refine z3 ?_|refine z4 ?_|refine z8 ?_)|((with_reducible refine z29 ?_);intro A B hA hB;(conv=>whnf))|(with_reducible first|refine z1 ?_|refine z2 ?_|refine z12 ?_)|((with_reducible refine gR ?_);(refine z31 rfl ?_;intro K hK;(conv=>whnf)))|((with_reducible refine gF ?_);(refine z33 rfl ?_;intro K hK;(conv=>whnf)))|((intro _;skip)<;>(conv=>whnf))))
    all_goals exact ⟨rfl,MemFits.pre 1 rfl⟩
  | true =>
    rw [Bool.true_and]
    by_cases hn:(r.length:Int)=t.n
    · rw [decide_eq_true hn,Bool.true_and]
      (repeat' (first|(with_reducible first|(refine hK _ _ ?_;clear hK K)|(refine hB ?_;clear hA hB A B)|(refine hK _ ?_;clear hK K))|((with_reducible first|refine z25 ?_|refine z26 ?_);intro K hK;(conv=>whnf))|(with_reducible refine z0 ?_)|((first|with_reducible refine NIf.not_ ?_|((with_reducible refine NIf.decY ?s ?_);case s=>assumption)|((with_reducible refine NIf.yes ?s ?_);case s=>rfl)|(with_reducible refine NN.a5 ?_)|((with_reducible refine NH.mk ?s ?_);case s=>(and_intros<;>first|with_reducible rfl|omega))|((with_reducible refine NCall.isF 38 ?_);refine NCall.subE [0] (ct) rfl (by decide) rfl rfl ?_))<;>(conv=>whnf))|(with_reducible first|refine z3 ?_|refine z4 ?_|refine z5 ?_|refine z6 ?_)|((with_reducible refine z29 ?_);intro A B hA hB;(conv=>whnf))|(with_reducible first|refine z1 ?_|refine z2 ?_)|((with_reducible refine gF ?_);(refine z33 rfl ?_;intro K hK;(conv=>whnf)))|((intro _;skip)<;>(conv=>whnf))))
      all_goals first | (exfalso;omega) | skip
      refine st_auto (α:=Nat) (fun i=>i≤r.length∧(r.take i).all (Rt.rowOk t.hs.length)=true) (fun i=>[.keep,.keep,.keep,.keep,.set (.bool false),.set (.int .i64 i),.drop,.keep,.keep,.keep,.keep,.keep,.keep,.keep,.keep,.keep,.keep,.drop,.drop,.drop,.drop,.drop,.drop,.drop,.drop,.drop,.drop,.drop,.drop,.drop,.drop,.drop,.drop,.drop,.drop,.drop,.drop,.drop,.drop,.drop,.drop,.drop,.drop,.drop,.drop,.drop,.drop,.drop,.drop,.drop,.drop,.drop,.drop,.drop,.drop,.drop,.drop,.drop,.drop]) (fun _=>[.keep,.keep]) (fun i=>r.length - i) 0 ⟨Nat.zero_le _,rfl⟩ ?_ (MemFits.eq rfl) ?_
      · repeat (first|exact FitsSl.nil|refine FitsSl.any ?_|refine FitsSl.cons (Fit1.int (by first | rfl | omega)) ?_|refine FitsSl.cons (Fit1.bool rfl) ?_|refine FitsSl.cons (Fit1.same (by intro h;cases h) (by with_reducible rfl)) ?_)
      (intro i ⟨hi,hall⟩;intro K hK;(conv=>whnf);refine hK _ _ ?_;clear hK K)
      by_cases hlt:i<r.length
      · have hx:r[i]?=some r[i]:=List.getElem?_eq_getElem hlt
        obtain ⟨A,cap,hrow,c0⟩:=hr.get hx
        have hrf:=hf2 _ (List.getElem_mem hlt)
        have hnx:(r.take (i+1)).all (Rt.rowOk t.hs.length)=Rt.rowOk t.hs.length r[i]:=by rw [List.take_add_one,hx,Option.toList_some,List.all_append,hall];simp
        have hbad:Rt.rowOk t.hs.length r[i]=false→r.all (Rt.rowOk t.hs.length)=false:=fun h=>by
          rw [List.all_eq_false]
          exact ⟨r[i],List.getElem_mem hlt,by simp [h]⟩
        have hdef:Rt.rowOk t.hs.length r[i]=(decide (r[i].length=t.hs.length)&&r[i].all Rt.pOk):=rfl
        generalize r[i]=row at *
        have hok2:=hrow.ok
        by_cases h1:row.length=t.hs.length
        · rw [decide_eq_true h1,Bool.true_and] at hdef
          rw [hdef] at hnx hbad
          (repeat' (first|(with_reducible first|(refine hK _ _ ?_;clear hK K)|(refine hA ?_;clear hA hB A B)|(refine hB ?_;clear hA hB A B)|(refine hK _ ?_;clear hK K))|((with_reducible refine z25 ?_);intro K hK;(conv=>whnf))|(with_reducible refine z0 ?_)|((first|with_reducible refine NIf.not_ ?_|((with_reducible refine NIf.decY ?s ?_);case s=>omega)|(with_reducible first|refine NN.cast ?_|refine NN.a2 ?_|refine NN.a5 ?_)|((with_reducible refine NH.mk ?s ?_);case s=>(and_intros<;>first|omega|rfl))|(with_reducible refine NLd.of (by with_reducible assumption) ?_))<;>(conv=>whnf))|(with_reducible refine st_ordSout ?_)|((with_reducible refine gNOK ?_);(first|(refine st_ordK1 rfl (by kernel_rfl) rfl ?_;intro K hK;(conv=>whnf))|refine st_ordK0 rfl (by kernel_rfl) ?_))|((with_reducible refine gX ?_);(first|refine st_orderS [] rfl rfl (by kernel_rfl) _ rfl ?_|(with_reducible first|refine z3 ?_|refine z4 ?_|refine z5 ?_|refine z6 ?_)|((with_reducible refine z29 ?_);intro A B hA hB;(conv=>whnf))))|(with_reducible first|refine z1 ?_|refine z2 ?_)))
          all_goals first | (exfalso;omega) | skip
          refine st_auto (α:=Nat) (fun k=>k≤row.length∧(row.take k).all Rt.pOk=true) (fun k=>[.keep,.keep,.keep,.keep,.set (.bool false),.keep,.set (.int .i64 k),.keep,.keep,.keep,.keep,.keep,.keep,.keep,.keep,.keep,.keep,.keep,.keep,.keep,.keep,.keep,.keep,.keep,.keep,.keep,.keep,.keep,.keep,.keep,.keep,.keep,.drop,.drop,.drop,.drop,.drop,.drop,.drop,.drop,.drop,.drop,.drop,.drop,.drop,.drop,.drop,.drop,.drop,.drop,.drop,.drop,.drop,.drop,.drop,.drop,.drop,.drop,.drop]) (fun _=>[.keep,.keep]) (fun k=>row.length - k) 0 ⟨Nat.zero_le _,rfl⟩ ?_ (MemFits.eq rfl) ?_
          · repeat (first|exact FitsSl.nil|refine FitsSl.any ?_|refine FitsSl.cons (Fit1.int (by first | rfl | omega)) ?_|refine FitsSl.cons (Fit1.bool rfl) ?_|refine FitsSl.cons (Fit1.same (by intro h;cases h) (by with_reducible rfl)) ?_)
          (intro k ⟨hk,hall2⟩;intro K hK;(conv=>whnf);refine hK _ _ ?_;clear hK K)
          by_cases hkl:k<row.length
          · have hy:row[k]?=some row[k]:=List.getElem?_eq_getElem hkl
            have d0:=hrow.get hy
            have hny:(row.take (k+1)).all Rt.pOk=Rt.pOk row[k]:=by rw [List.take_add_one,hy,Option.toList_some,List.all_append,hall2];simp
            have hbad2:Rt.pOk row[k]=false→row.all Rt.pOk=false:=fun h=>by
              rw [List.all_eq_false]
              exact ⟨row[k],List.getElem_mem hkl,by simp [h]⟩
            have hpd:Rt.pOk row[k]=(decide (0≤row[k])&&decide (row[k]<8)):=rfl
            generalize row[k]=p at *
            by_cases hp:0≤p∧p<8
            · rw [decide_eq_true hp.1,decide_eq_true hp.2,Bool.true_and] at hpd
              obtain ⟨hp1,hp2⟩:=hp
              (repeat' (first|(with_reducible first|(refine hK _ _ ?_;clear hK K)|(refine hA ?_;clear hA hB A B)|(refine hB ?_;clear hA hB A B))|((with_reducible first|refine z25 ?_|refine z26 ?_);intro K hK;(conv=>whnf))|(with_reducible refine z0 ?_)|((first|((with_reducible refine NV.i64 ?s ?_);case s=>omega)|((with_reducible refine NIf.decY ?s ?_);case s=>omega)|((with_reducible refine NIf.decN ?s ?_);case s=>omega)|(with_reducible first|refine NN.cast ?_|refine NN.a2 ?_)|((with_reducible refine NH.mk ?s ?_);case s=>(and_intros<;>omega))|(with_reducible refine NLd.of (by with_reducible assumption) ?_))<;>(conv=>whnf))|(with_reducible first|refine z3 ?_|refine z4 ?_|refine z5 ?_|refine z6 ?_)|((with_reducible refine z29 ?_);intro A B hA hB;(conv=>whnf))|(with_reducible first|refine z1 ?_|refine z2 ?_|refine z9 ?_)))
              all_goals first | (exfalso;omega) | refine st_round (k+1) ⟨hkl,by rw [hny,hpd]⟩ (by omega) ?_ (MemFits.eq rfl)
              all_goals repeat (first|exact FitsSl.nil|refine FitsSl.any ?_|refine FitsSl.cons (Fit1.int (by first | rfl | omega)) ?_|refine FitsSl.cons (Fit1.bool rfl) ?_|refine FitsSl.cons (Fit1.same (by intro h;cases h) (by with_reducible rfl)) ?_)
            · have hpf:Rt.pOk p=false:=by
                cases hq:Rt.pOk p with
                | false=>rfl
                | true =>
                  rw [hpd,Bool.and_eq_true,decide_eq_true_eq,decide_eq_true_eq] at hq
                  exact (hp hq).elim
              rw [hbad (hbad2 hpf)]
              (repeat' (first|(with_reducible first|(refine hK _ _ ?_;clear hK K)|(refine hA ?_;clear hA hB A B)|(refine hK _ ?_;clear hK K))|((with_reducible first|refine z25 ?_|refine z26 ?_);intro K hK;(conv=>whnf))|(with_reducible refine z0 ?_)|((first|((with_reducible refine NIf.decY ?s ?_);case s=>first|assumption|omega)|((with_reducible refine NIf.decN ?s ?_);case s=>assumption)|((with_reducible refine NIf.yes ?s ?_);case s=>rfl)|(with_reducible first|refine NIf.dec (fun _=>?_) (fun _=>?_)|refine NN.cast ?_|refine NN.a2 ?_)|((with_reducible refine NH.mk ?s ?_);case s=>(and_intros<;>omega))|(with_reducible refine NLd.of (by with_reducible assumption) ?_))<;>(conv=>whnf))|(with_reducible first|refine z3 ?_|refine z4 ?_|refine z5 ?_|refine z6 ?_|refine z8 ?_)|((with_reducible refine z29 ?_);intro A B hA hB;(conv=>whnf))|(with_reducible first|refine z1 ?_|refine z2 ?_|refine z12 ?_|refine z13 ?_|refine z20 ?_)|((with_reducible refine gR ?_);(refine z31 rfl ?_;intro K hK;(conv=>whnf)))))
              all_goals first | (exfalso;omega) | exact ⟨rfl,MemFits.pre 1 rfl⟩
          · obtain rfl:k=row.length:=by omega
            rw [List.take_length] at hall2
            (repeat' (first|(with_reducible first|(refine hK _ _ ?_;clear hK K)|(refine hB ?_;clear hA hB A B))|((with_reducible refine z25 ?_);intro K hK;(conv=>whnf))|(with_reducible refine z0 ?_)|((first|((with_reducible refine NV.i64 ?s ?_);case s=>omega)|((with_reducible refine NIf.decN ?s ?_);case s=>omega)|(with_reducible first|refine NN.cast ?_|refine NN.a2 ?_)|((with_reducible refine NH.mk ?s ?_);case s=>(and_intros<;>omega))|(with_reducible refine NLd.of (by with_reducible assumption) ?_))<;>(conv=>whnf))|(with_reducible first|refine z3 ?_|refine z4 ?_|refine z7 ?_)|((with_reducible refine z29 ?_);intro A B hA hB;(conv=>whnf))|(with_reducible first|refine z1 ?_|refine z2 ?_|refine z9 ?_|refine z10 ?_|refine z11 ?_|refine z19 ?_)))
            all_goals refine st_round (i+1) ⟨hlt,by rw [hnx,hall2]⟩ (by omega) ?_ (MemFits.pre 2 rfl)
            all_goals repeat (first|exact FitsSl.nil|refine FitsSl.any ?_|refine FitsSl.cons (Fit1.int (by first | rfl | omega)) ?_|refine FitsSl.cons (Fit1.bool rfl) ?_|refine FitsSl.cons (Fit1.same (by intro h;cases h) (by with_reducible rfl)) ?_)
        · have hro:Rt.rowOk t.hs.length row=false:=by rw [hdef,decide_eq_false h1,Bool.false_and]
          rw [hbad hro]
          (repeat' (first|(with_reducible first|(refine hK _ _ ?_;clear hK K)|(refine hA ?_;clear hA hB A B)|(refine hK _ ?_;clear hK K))|((with_reducible refine z25 ?_);intro K hK;(conv=>whnf))|(with_reducible refine z0 ?_)|((first|with_reducible refine NIf.not_ ?_|((with_reducible refine NIf.decY ?s ?_);case s=>omega)|((with_reducible refine NIf.decN ?s ?_);case s=>omega)|(with_reducible first|refine NN.cast ?_|refine NN.a2 ?_|refine NN.a5 ?_)|((with_reducible refine NH.mk ?s ?_);case s=>(and_intros<;>first|omega|rfl))|(with_reducible refine NLd.of (by with_reducible assumption) ?_))<;>(conv=>whnf))|(with_reducible refine st_ordSout ?_)|((with_reducible refine gNOK ?_);(first|(refine st_ordK1 rfl (by kernel_rfl) rfl ?_;intro K hK;(conv=>whnf))|refine st_ordK0 rfl (by kernel_rfl) ?_))|((with_reducible refine gX ?_);(first|refine st_orderS [] rfl rfl (by kernel_rfl) _ rfl ?_|(with_reducible first|refine z3 ?_|refine z4 ?_|refine z5 ?_|refine z6 ?_|refine z8 ?_)|((with_reducible refine z29 ?_);intro A B hA hB;(conv=>whnf))))|(with_reducible first|refine z1 ?_|refine z2 ?_|refine z12 ?_|refine z13 ?_|refine z20 ?_)|((with_reducible refine gR ?_);(refine z31 rfl ?_;intro K hK;(conv=>whnf)))))
          all_goals first | (exfalso;omega) | exact ⟨rfl,MemFits.pre 1 rfl⟩
      · obtain rfl:i=r.length:=by omega
        rw [List.take_length] at hall
        rw [hall]
        (repeat' (first|(with_reducible first|(refine hK _ _ ?_;clear hK K)|(refine hB ?_;clear hA hB A B)|(refine hK _ ?_;clear hK K))|((with_reducible refine z25 ?_);intro K hK;(conv=>whnf))|(with_reducible refine z0 ?_)|((first|((with_reducible refine NIf.decN ?s ?_);case s=>omega)|((with_reducible refine NH.mk ?s ?_);case s=>(and_intros<;>omega)))<;>(conv=>whnf))|(with_reducible first|refine z3 ?_|refine z4 ?_|refine z7 ?_|refine z8 ?_)|((with_reducible refine z29 ?_);intro A B hA hB;(conv=>whnf))|(with_reducible first|refine z1 ?_|refine z2 ?_|refine z10 ?_|refine z11 ?_|refine z19 ?_)|((with_reducible refine gR ?_);(refine z31 rfl ?_;intro K hK;(conv=>whnf)))))
        all_goals exact ⟨rfl,MemFits.pre 1 rfl⟩
    · rw [decide_eq_false hn,Bool.false_and]
      (repeat' (first|(with_reducible first|(refine hK _ _ ?_;clear hK K)|(refine hA ?_;clear hA hB A B)|(refine hK _ ?_;clear hK K))|((with_reducible first|refine z25 ?_|refine z26 ?_);intro K hK;(conv=>whnf))|(with_reducible refine z0 ?_)|((first|with_reducible refine NIf.not_ ?_|((with_reducible refine NIf.decN ?s ?_);case s=>assumption)|((with_reducible refine NIf.yes ?s ?_);case s=>rfl)|(with_reducible refine NN.a5 ?_)|((with_reducible refine NH.mk ?s ?_);case s=>(and_intros<;>first|with_reducible rfl|omega))|((with_reducible refine NCall.isF 38 ?_);refine NCall.subE [0] (ct) rfl (by decide) rfl rfl ?_))<;>(conv=>whnf))|(with_reducible first|refine z3 ?_|refine z4 ?_|refine z8 ?_)|((with_reducible refine z29 ?_);intro A B hA hB;(conv=>whnf))|(with_reducible first|refine z1 ?_|refine z2 ?_|refine z12 ?_)|((with_reducible refine gR ?_);(refine z31 rfl ?_;intro K hK;(conv=>whnf)))|((with_reducible refine gF ?_);(refine z33 rfl ?_;intro K hK;(conv=>whnf)))|((intro _;skip)<;>(conv=>whnf))))
      all_goals first | (exfalso;omega) | exact ⟨rfl,MemFits.pre 1 rfl⟩
theorem refsteps21_c (F:Heap) (t:Tp.T) (lv hv v:Value) (r:List (List Int)) (ht:Tp.At F t lv hv) (hl:t.ls.length≤1000) (hr:Rt.Row F v r) (hf:Rt.few r) (hR:Rt.right t r=true) (sw h:Int) (n:Nat) (hn:n≤100) (h1:0≤sw) (h2:sw<t.n) (h3:0≤h) (h4:h<t.hs.length) :
    NCall Try.prog 24 [.agg (Tp.cs t lv hv),.hs v r.length,.int .i64 sw,.int .i64 h,.int .i64 n] [hpB F] fun u m=>u = .tup [.int .i64 (Rt.stp t r h n sw).1,.bool (Rt.stp t r h n sw).2]∧m=[hpB F]:=by
  refine NCall.fits (K:=fun u m=>u = .tup [.int .i64 (Rt.stp t r h n sw).1,.bool (Rt.stp t r h n sw).2]∧MemFits m [hpB F]) ?_ fun r m' h=>⟨r,_,rfl,h.2,h.1,rfl⟩
  have cN:=fun at_=>refnext21_c F t lv hv v r ht hl hr hf at_ h
  have hlo:=ht.l.ok
  have hho:=ht.h.ok
  have hok:=hr.ok
  have hg:=fun i x (hx:t.hs[i]?=some x)=>ht.h.get hx
  obtain ⟨hT,hrn,hrows⟩:=Rt.right_parts hR
  have hhl:h.toNat<t.hs.length:=by omega
  have hxh:t.hs[h.toNat]?=some t.hs[h.toNat]:=List.getElem?_eq_getElem hhl
  obtain ⟨d0,d1⟩:=hg _ _ hxh
  have hcd:=fun at_ p (hp:Rt.prt r at_ h=some p)=>Rt.come_def (t:=t) (at_:=at_) hxh hp
  have hps:=fun at_ (h1:0≤at_) (h2:at_<t.n)=>Rt.prt_some hR h1 h2 h3 h4
  have hnn:=fun at_ b (hb:Rt.nxt t r at_ h=some b)=>Rt.nxt_in hT hb
  have hstp:∀ m a,Rt.stp t r h (m+1) a=if Rt.come t r h a=true then (a,false) else match Rt.nxt t r a h with
    | none=>(-1,false)
    | some b=>Rt.stp t r h m b:=fun m a=>rfl
  have hst0:∀ a,Rt.stp t r h 0 a=(a,Rt.come t r h a):=fun a=>rfl
  generalize t.hs[h.toNat]=x at *
  generalize hW:Rt.stp t r h n sw=W at *
  unfold Tp.cs at cN ⊢
  refine ncall_of Try.func24 rfl (by decide) ?_
  (repeat' (first|(with_reducible first|(refine hK _ _ ?_;clear hK K)|(refine hK _ ?_;clear hK K))|((with_reducible refine z25 ?_);intro K hK;(conv=>whnf))|(with_reducible first|refine z0 ?_|refine z3 ?_|refine z4 ?_|refine z5 ?_|refine z1 ?_|refine z2 ?_)|((with_reducible refine gF ?_);(refine z33 rfl ?_;intro K hK;(conv=>whnf)))|((intro _;skip)<;>(conv=>whnf))))
  refine st_auto (α:=Int × Nat) (fun (a,k)=>k≤n∧(0≤a∧a<t.n)∧Rt.stp t r h (n - k) a=W) (fun (a,k)=>[.keep,.keep,.keep,.keep,.keep,.keep,.keep,.keep,.keep,.keep,.set (.int .i64 0),.set (.bool false),.set (.int .i64 a),.set (.int .i64 k),.drop,.drop,.keep,.drop,.drop,.drop,.drop,.drop,.drop,.drop,.drop,.drop,.drop,.drop,.drop,.drop,.drop,.drop,.drop,.drop,.drop,.drop,.drop,.drop,.drop,.drop,.drop,.drop,.drop,.drop,.drop,.drop,.drop,.drop,.drop,.drop,.drop,.drop,.drop,.drop,.drop,.drop,.drop,.drop,.drop,.drop,.drop,.drop,.drop,.drop,.drop,.keep]) (fun _=>[.keep,.keep]) (fun (a,k)=>n - k) (sw,0) ⟨Nat.zero_le _,⟨h1,h2⟩,hW⟩ ?_ (MemFits.eq rfl) ?_
  · repeat (first|exact FitsSl.nil|refine FitsSl.any ?_|refine FitsSl.cons (Fit1.int (by first | rfl | omega)) ?_|refine FitsSl.cons (Fit1.bool rfl) ?_|refine FitsSl.cons (Fit1.same (by intro h;cases h) (by with_reducible rfl)) ?_)
  (intro ⟨a,k⟩ ⟨hk,⟨ha0,han⟩,hw⟩;intro K hK;(conv=>whnf);refine hK _ _ ?_;clear hK K)
  dsimp only
  obtain ⟨p,hpp⟩:=hps a ha0 han
  obtain ⟨row',_,_,hrow',hcell'⟩:=Rt.prt_in hpp
  obtain ⟨A,cap,hIr,c0⟩:=hr.get hrow'
  have g0:=hIr.get hcell'
  have hok':=hIr.ok
  have hyl:=(List.getElem?_eq_some_iff.1 hrow').1
  have hhl':=(List.getElem?_eq_some_iff.1 hcell').1
  have hcome:=hcd a p hpp
  have cn:=cN a
  by_cases hc:x.at_=a∧x.port=p
  · have hct:Rt.come t r h a=true:=by rw [hcome,decide_eq_true hc.1,decide_eq_true hc.2];rfl
    have hfin:W=(a,decide (k=n)):=by
      rw [← hw]
      by_cases hkn:k=n
      · rw [hkn,Nat.sub_self,hst0,hct,decide_eq_true rfl]
      · rw [show n - k=(n - k - 1)+1 by omega,hstp,if_pos hct,decide_eq_false hkn]
    rw [hfin]
    (repeat' (first|(with_reducible first|(refine hK _ _ ?_;clear hK K)|(refine hA ?_;clear hA hB A B)|(refine hK _ ?_;clear hK K))|((with_reducible refine z25 ?_);intro K hK;(conv=>whnf))|(with_reducible refine z0 ?_)|((first|((with_reducible refine NIf.yes ?s ?_);case s=>(simp [hc.1,hc.2];done))|((with_reducible refine NIf.decY ?s ?_);case s=>omega)|(with_reducible first|refine NN.a2 ?_|refine NN.a5 ?_|refine NN.a6 ?_|refine NN.keep ?_)|((with_reducible refine NH.mk ?s ?_);case s=>(and_intros<;>first|omega|rfl))|(with_reducible refine NLd.of (by with_reducible assumption) ?_))<;>(conv=>whnf))|(with_reducible refine st_ordSout ?_)|((with_reducible refine gNOK ?_);(first|(refine st_ordK1 rfl (by kernel_rfl) rfl ?_;intro K hK;(conv=>whnf))|(refine st_ordK1g rfl (by kernel_rfl) rfl ?_;intro K hK;(conv=>whnf))|refine st_ordK0 rfl (by kernel_rfl) ?_))|((with_reducible refine gX ?_);(first|refine st_orderS [] rfl rfl (by kernel_rfl) _ rfl ?_|(with_reducible first|refine z3 ?_|refine z4 ?_|refine z5 ?_|refine z6 ?_|refine z8 ?_)|((with_reducible refine z29 ?_);intro A B hA hB;(conv=>whnf))))|(with_reducible first|refine z1 ?_|refine z2 ?_|refine z12 ?_|refine z13 ?_|refine z20 ?_)|((with_reducible refine gR ?_);(refine z31 rfl ?_;intro K hK;(conv=>whnf)))))
    all_goals exact ⟨by rw [show decide ((k:Int)=n)=decide (k=n) from decide_eq_decide.2 (by omega)],MemFits.pre 1 rfl⟩
  · have hcf:Rt.come t r h a=false:=by
      rw [hcome]
      cases hb:(decide (x.at_=a)&&decide (x.port=p)) with
      | false=>rfl
      | true =>
        rw [Bool.and_eq_true,decide_eq_true_eq,decide_eq_true_eq] at hb
        exact (hc hb).elim
    have hq2:∀ {b:Bool},(decide (x.at_=a)&&(decide (x.port=p)&&true))=b→b=false:=fun {b} hb=>by
      rw [← hb,Bool.and_true,Bool.eq_false_iff,ne_eq,Bool.and_eq_true,decide_eq_true_eq,decide_eq_true_eq]
      exact hc
    by_cases hkn:k=n
    · rw [hkn,Nat.sub_self,hst0,hcf] at hw
      subst hw
      (repeat' (first|(with_reducible first|(refine hK _ _ ?_;clear hK K)|(refine hA ?_;clear hA hB A B)|(refine hB ?_;clear hA hB A B)|(refine hK _ ?_;clear hK K))|((with_reducible refine z25 ?_);intro K hK;(conv=>whnf))|(with_reducible refine z0 ?_)|((first|((with_reducible refine NIf.decY ?s ?_);case s=>first|assumption|omega)|((with_reducible refine NIf.decN ?s ?_);case s=>first|assumption|omega)|((with_reducible refine NIf.no ?s ?_);case s=>rfl)|(with_reducible first|refine NIf.dec (fun _=>?_) (fun _=>?_)|refine NN.a2 ?_|refine NN.a5 ?_|refine NN.a6 ?_|refine NN.keep ?_)|((with_reducible refine NH.mk ?s ?_);case s=>(and_intros<;>first|omega|rfl))|(with_reducible refine NLd.of (by with_reducible assumption) ?_))<;>(conv=>whnf))|(with_reducible refine st_ordSout ?_)|((with_reducible refine gNOK ?_);(first|(refine st_ordK1 rfl (by kernel_rfl) rfl ?_;intro K hK;(conv=>whnf))|(refine st_ordK1g rfl (by kernel_rfl) rfl ?_;intro K hK;(conv=>whnf))|refine st_ordK0 rfl (by kernel_rfl) ?_))|((with_reducible refine gX ?_);(first|refine st_orderS [] rfl rfl (by kernel_rfl) _ rfl ?_|(with_reducible first|refine z3 ?_|refine z4 ?_|refine z5 ?_|refine z6 ?_|refine z8 ?_)|((with_reducible refine z29 ?_);intro A B hA hB;(conv=>whnf))))|(with_reducible first|refine z1 ?_|refine z2 ?_|refine z12 ?_|refine z13 ?_|refine z20 ?_)|((with_reducible refine gR ?_);(refine z31 rfl ?_;intro K hK;(conv=>whnf)))))
      all_goals first
        | (exfalso;rename_i hq;exact Bool.noConfusion (hq2 hq))
        | (exfalso;omega)
        | exact ⟨rfl,MemFits.pre 1 rfl⟩
    · rw [show n - k=(n - k - 1)+1 by omega,hstp,if_neg (by rw [hcf];decide)] at hw
      cases hnx:Rt.nxt t r a h with
      | none =>
        rw [hnx] at cn hw
        simp only [Rt.prtV] at cn
        dsimp only at hw
        subst hw
        (repeat' (first|(with_reducible first|(refine hK _ _ ?_;clear hK K)|(refine hA ?_;clear hA hB A B)|(refine hB ?_;clear hA hB A B)|(refine hK _ ?_;clear hK K))|((with_reducible refine z25 ?_);intro K hK;(conv=>whnf))|(with_reducible refine z0 ?_)|((first|with_reducible refine NIf.not_ ?_|((with_reducible refine NIf.decY ?s ?_);case s=>first|assumption|omega)|((with_reducible refine NIf.decN ?s ?_);case s=>first|assumption|omega)|((with_reducible refine NIf.no ?s ?_);case s=>rfl)|(with_reducible first|refine NIf.dec (fun _=>?_) (fun _=>?_)|refine NN.a2 ?_|refine NN.a5 ?_|refine NN.a6 ?_|refine NN.keep ?_)|((with_reducible refine NH.mk ?s ?_);case s=>(and_intros<;>first|with_reducible rfl|omega|rfl))|((with_reducible refine NCall.isF 39 ?_);refine NCall.subE [0] (cn) rfl (by decide) rfl rfl ?_)|(with_reducible refine NLd.of (by with_reducible assumption) ?_))<;>(conv=>whnf))|(with_reducible refine st_ordSout ?_)|((with_reducible refine gNOK ?_);(first|(refine st_ordK1 rfl (by kernel_rfl) rfl ?_;intro K hK;(conv=>whnf))|(refine st_ordK1g rfl (by kernel_rfl) rfl ?_;intro K hK;(conv=>whnf))|refine st_ordK0 rfl (by kernel_rfl) ?_))|((with_reducible refine gX ?_);(first|refine st_orderS [] rfl rfl (by kernel_rfl) _ rfl ?_|(with_reducible first|refine z3 ?_|refine z4 ?_|refine z5 ?_|refine z6 ?_|refine z8 ?_)|((with_reducible refine z29 ?_);intro A B hA hB;(conv=>whnf))))|(with_reducible first|refine z1 ?_|refine z2 ?_|refine z12 ?_|refine z13 ?_|refine z20 ?_)|((with_reducible refine gR ?_);(refine z31 rfl ?_;intro K hK;(conv=>whnf)))))
        all_goals first
          | (exfalso;rename_i hq;exact Bool.noConfusion (hq2 hq))
          | (exfalso;omega)
          | exact ⟨rfl,MemFits.pre 1 rfl⟩
      | some b =>
        rw [hnx] at cn hw
        simp only [Rt.prtV] at cn
        dsimp only at hw
        have hb:=hnn a b hnx
        (repeat' (first|(with_reducible first|(refine hK _ _ ?_;clear hK K)|(refine hA ?_;clear hA hB A B)|(refine hB ?_;clear hA hB A B)|(refine hK _ ?_;clear hK K))|((with_reducible refine z25 ?_);intro K hK;(conv=>whnf))|(with_reducible refine z0 ?_)|((first|((with_reducible refine NV.i64 ?s ?_);case s=>omega)|with_reducible refine NIf.not_ ?_|((with_reducible refine NIf.decY ?s ?_);case s=>first|assumption|omega)|((with_reducible refine NIf.decN ?s ?_);case s=>first|assumption|omega)|((with_reducible refine NIf.yes ?s ?_);case s=>rfl)|((with_reducible refine NIf.no ?s ?_);case s=>rfl)|(with_reducible first|refine NIf.dec (fun _=>?_) (fun _=>?_)|refine NN.a2 ?_|refine NN.a5 ?_|refine NN.a6 ?_|refine NN.keep ?_)|((with_reducible refine NH.mk ?s ?_);case s=>(and_intros<;>first|with_reducible rfl|omega|rfl))|((with_reducible refine NCall.isF 39 ?_);refine NCall.subE [0] (cn) rfl (by decide) rfl rfl ?_)|(with_reducible refine NLd.of (by with_reducible assumption) ?_))<;>(conv=>whnf))|(with_reducible refine st_ordSout ?_)|((with_reducible refine gNOK ?_);(first|(refine st_ordK1 rfl (by kernel_rfl) rfl ?_;intro K hK;(conv=>whnf))|(refine st_ordK1g rfl (by kernel_rfl) rfl ?_;intro K hK;(conv=>whnf))|refine st_ordK0 rfl (by kernel_rfl) ?_))|((with_reducible refine gX ?_);(first|refine st_orderS [] rfl rfl (by kernel_rfl) _ rfl ?_|(with_reducible first|refine z3 ?_|refine z4 ?_|refine z5 ?_|refine z6 ?_)|((with_reducible refine z29 ?_);intro A B hA hB;(conv=>whnf))))|(with_reducible first|refine z1 ?_|refine z2 ?_|refine z9 ?_)))
        all_goals first
          | (exfalso;rename_i hq;exact Bool.noConfusion (hq2 hq))
          | (exfalso;omega)
          | refine st_round (b,k+1) ⟨by omega,hb,by rw [show n - (k+1)=n - k - 1 by omega];exact hw⟩ (by show n - (k+1)<n - k;omega) ?_ (MemFits.eq rfl)
        all_goals repeat (first|exact FitsSl.nil|refine FitsSl.any ?_|refine FitsSl.cons (Fit1.int (by first | rfl | omega)) ?_|refine FitsSl.cons (Fit1.bool rfl) ?_|refine FitsSl.cons (Fit1.same (by intro h;cases h) (by with_reducible rfl)) ?_)
end Go.Proofs.Ytijkmhmgigaieaa
