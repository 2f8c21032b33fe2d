import Derived.Test.YtijkmhmgigaieaaRt2
import Derived.Test.YtijkmhmgigaieaaSxK
namespace Go.Proofs.Ytijkmhmgigaieaa
open Go.Sx
set_option maxRecDepth 20000
set_option linter.unusedSimpArgs false
set_option linter.unusedVariables false
set_option maxHeartbeats 4000000
set_option linter.unusedVariables false
theorem av_get {l:List Int} {i:Nat} {x:Int} (h:l[i]?=some x):(Srt.av l)[i]?=some (.int .i64 x):=by unfold Srt.av;rw [List.getElem?_map,h];rfl
theorem indexV_c (v:Value) (l:List Int) (k:Nat) (x:Int) (hk:k≤l.length) (hl:l.length≤1000) :
    NCall Try.prog 78 [.view 0 v 1 0 k,.int .i64 x] [⟨addrOf v,Srt.av l,.row v 3 1 l.length⟩] fun r m=>r = .int .i64 (Au.idx (fun y=>decide (x=y)) (l.take k))∧m=[⟨addrOf v,Srt.av l,.row v 3 1 l.length⟩]:=by
  refine ncall_of Try.func78 rfl (by decide) ?_
  have hal:=Srt.av_len l
  have htl:(l.take k).length=k:=by rw [List.length_take];omega
  (repeat' (first|(with_reducible first|(refine hK _ _ ?_;clear hK K)|(refine hK _ ?_;clear hK K))|((with_reducible refine z25 ?_);intro K hK;(conv=>whnf))|(with_reducible refine z0 ?_)|(((with_reducible refine NH.mk ?s ?_);case s=>(and_intros<;>first|with_reducible rfl|omega))<;>(conv=>whnf))|(with_reducible first|refine z3 ?_|refine z4 ?_|refine z5 ?_|refine z1 ?_|refine z2 ?_)|((with_reducible refine gF ?_);(refine z33 rfl ?_;intro K hK;(conv=>whnf)))))
  refine st_auto (α:=Nat) (fun i=>i≤k∧∀ j y,j<i→(l.take k)[j]?=some y→(decide (x=y))=false) (fun i=>[.keep,.keep,.keep,.keep,.set (.int .i64 0),.drop,.keep,.keep,.set (.int .i64 i),.drop,.drop,.drop,.drop,.drop,.drop,.drop,.drop,.drop,.drop]) (fun _=>[]) (fun i=>k - i) 0 ⟨Nat.zero_le _,fun j x h=>absurd h (Nat.not_lt_zero _)⟩ ?_ (MemFits.eq rfl) ?_
  · repeat (first|exact FitsSl.nil|refine FitsSl.any ?_|refine FitsSl.cons (Fit1.int (by first | rfl | omega)) ?_|refine FitsSl.cons (Fit1.same (by intro h;cases h) (by with_reducible rfl)) ?_)
  (intro i ⟨hi,hno⟩;intro K hK;(conv=>whnf);refine hK _ _ ?_;clear hK K)
  by_cases hlt:i<k
  · have hx:(l.take k)[i]?=some ((l.take k)[i]'(by omega)):=List.getElem?_eq_getElem (by omega)
    have hx2:l[i]?=some ((l.take k)[i]'(by omega)):=by rw [← hx,List.getElem?_take,if_pos hlt]
    have c0:(Srt.av l)[0+i]?=some (.int .i64 ((l.take k)[i]'(by omega))):=by rw [Nat.zero_add];exact av_get hx2
    have hyes:=fun (h:decide (x=(l.take k)[i]'(by omega))=true)=>Au.idx_some (p:=fun y=>decide (x=y)) hx h hno
    have hnx:decide (x=(l.take k)[i]'(by omega))=false→∀ j y,j<i+1→(l.take k)[j]?=some y→decide (x=y)=false:=fun h j y hj hjx=>by
      rcases Nat.lt_or_ge j i with h1 | h1
      · exact hno j y h1 hjx
      · obtain rfl:j=i:=by omega
        rw [hx] at hjx
        injection hjx with hjx
        rw [← hjx];exact h
    generalize (l.take k)[i]'(by omega)=y at *
    by_cases he:x=y
    · have hid:=hyes (decide_eq_true he)
      (repeat' (first|(with_reducible first|(refine hK _ _ ?_;clear hK K)|(refine hA ?_;clear hA hB A B)|(refine hK _ ?_;clear hK K))|((with_reducible refine gO ?_);(first|((with_reducible refine z25 ?_);intro K hK;(conv=>whnf))|(with_reducible refine z0 ?_)))|((first|((with_reducible refine gI ?_);(first|(((with_reducible refine NIf.yes ?s ?_);case s=>(simp [he];done)))|((with_reducible refine NIf.decY ?s ?_);case s=>omega)))|((with_reducible refine gN ?_);(with_reducible first|refine NN.cast ?_|refine NN.a2 ?_))|((with_reducible refine gH ?_);((with_reducible refine NH.mk ?s ?_);case s=>(and_intros<;>first|with_reducible rfl|omega))))<;>(conv=>whnf))|((refine nthK.of (c0) ?_)<;>(conv=>whnf))|((with_reducible refine gX ?_);(first|(with_reducible first|refine z3 ?_|refine z4 ?_|refine z5 ?_|refine z6 ?_|refine z8 ?_)|((with_reducible refine z29 ?_);intro A B hA hB;(conv=>whnf))))|(with_reducible first|refine z1 ?_|refine z2 ?_|refine z12 ?_|refine z13 ?_|refine z20 ?_)|((with_reducible refine gR ?_);((refine z31 rfl ?_);intro K hK;(conv=>whnf)))))
      all_goals exact ⟨by rw [hid],rfl⟩
    · have hn2:=hnx (decide_eq_false he)
      (repeat' (first|(with_reducible first|(refine hK _ _ ?_;clear hK K)|(refine hA ?_;clear hA hB A B)|(refine hB ?_;clear hA hB A B))|((with_reducible refine gO ?_);(first|((with_reducible refine z25 ?_);intro K hK;(conv=>whnf))|(with_reducible refine z0 ?_)))|((first|((with_reducible refine gV ?_);(((with_reducible refine NV.i64 ?s ?_);case s=>omega)))|((with_reducible refine gI ?_);(first|(((with_reducible refine NIf.no ?s ?_);case s=>(simp [he];done)))|((with_reducible refine NIf.decY ?s ?_);case s=>omega)))|((with_reducible refine gN ?_);(with_reducible first|refine NN.cast ?_|refine NN.a2 ?_))|((with_reducible refine gH ?_);((with_reducible refine NH.mk ?s ?_);case s=>(and_intros<;>first|with_reducible rfl|omega))))<;>(conv=>whnf))|((refine nthK.of (c0) ?_)<;>(conv=>whnf))|((with_reducible refine gX ?_);(first|(with_reducible first|refine z3 ?_|refine z4 ?_|refine z5 ?_|refine z6 ?_)|((with_reducible refine z29 ?_);intro A B hA hB;(conv=>whnf))))|(with_reducible first|refine z1 ?_|refine z2 ?_|refine z9 ?_)))
      all_goals refine st_round (i+1) ⟨hlt,hn2⟩ (by omega) ?_ (MemFits.eq rfl)
      all_goals repeat (first|exact FitsSl.nil|refine FitsSl.any ?_|refine FitsSl.cons (Fit1.int (by first | rfl | omega)) ?_|refine FitsSl.cons (Fit1.same (by intro h;cases h) (by with_reducible rfl)) ?_)
  · have hid:Au.idx (fun y=>decide (x=y)) (l.take k) = -1:=Au.idx_none fun y hy=>by
      obtain ⟨j,hj,rfl⟩:=List.mem_iff_getElem.1 hy
      exact hno j _ (by omega) (List.getElem?_eq_getElem hj)
    (repeat' (first|(with_reducible first|(refine hK _ _ ?_;clear hK K)|(refine hB ?_;clear hA hB A B)|(refine hK _ ?_;clear hK K))|((with_reducible refine z25 ?_);intro K hK;(conv=>whnf))|(with_reducible refine z0 ?_)|(((with_reducible refine NIf.decN ?s ?_);case s=>omega)<;>(conv=>whnf))|(with_reducible first|refine z3 ?_|refine z4 ?_|refine z7 ?_|refine z8 ?_)|((with_reducible refine z29 ?_);intro A B hA hB;(conv=>whnf))|(with_reducible first|refine z1 ?_|refine z2 ?_|refine z10 ?_|refine z11 ?_|refine z19 ?_)|((with_reducible refine gR ?_);(refine z31 rfl ?_;intro K hK;(conv=>whnf)))))
    all_goals exact ⟨by rw [hid],rfl⟩
theorem containsV_c (v:Value) (l:List Int) (k:Nat) (x:Int) (hk:k≤l.length) (hl:l.length≤1000) :
    NCall Try.prog 63 [.view 0 v 1 0 k,.int .i64 x] [⟨addrOf v,Srt.av l,.row v 3 1 l.length⟩] fun r m=>r = .bool ((l.take k).any fun y=>decide (x=y))∧m=[⟨addrOf v,Srt.av l,.row v 3 1 l.length⟩]:=by
  have c:=indexV_c v l k x hk hl
  have hA:=Au.idx_any (fun y=>decide (x=y)) (l.take k)
  refine ncall_of Try.func63 rfl (by decide) ?_
  (repeat' (first|(with_reducible first|(refine hK _ _ ?_;clear hK K)|(refine hK _ ?_;clear hK K))|((with_reducible refine z25 ?_);intro K hK;(conv=>whnf))|(with_reducible refine z0 ?_)|(((with_reducible refine NCall.isF 78 ?_);refine NCall.subE [0] (c) rfl (by decide) rfl rfl ?_)<;>(conv=>whnf))|(with_reducible first|refine z3 ?_|refine z4 ?_|refine z8 ?_|refine z1 ?_|refine z2 ?_)|((with_reducible refine gR ?_);(refine z31 rfl ?_;intro K hK;(conv=>whnf)))|((with_reducible refine gF ?_);(refine z33 rfl ?_;intro K hK;(conv=>whnf)))))
  all_goals exact ⟨by rw [← hA],rfl⟩
theorem twice21_c (v:Value) (l:List Int) (x:Int) (hl:l.length<1000) :
    NCall Try.prog 55 [.sl 0 v (l.length+1)] [⟨addrOf v,Srt.av (l++[x]),.row v 3 1 (l.length+1)⟩] fun r m=>r = .bool (Rt.twice (l++[x]))∧m=[⟨addrOf v,Srt.av (l++[x]),.row v 3 1 (l.length+1)⟩]:=by
  have hll:(l++[x]).length=l.length+1:=by simp
  have cc:=containsV_c v (l++[x]) l.length x (by omega) (by omega)
  have ht:Rt.twice (l++[x])=(((l++[x]).take l.length).any fun y=>decide (x=y)):=by
    unfold Rt.twice
    rw [List.getLast?_concat,List.dropLast_concat,List.take_left']
    rfl
  have hx:(Srt.av (l++[x]))[l.length]?=some (.int .i64 x):=av_get (by rw [List.getElem?_append_right (Nat.le_refl _),Nat.sub_self];rfl)
  rw [ht]
  rw [hll] at cc
  generalize ((l++[x]).take l.length).any (fun y=>decide (x=y))=b at *
  generalize Srt.av (l++[x])=cs at *
  refine ncall_of Try.func55 rfl (by decide) ?_
  (repeat' (first|(with_reducible first|(refine hK _ _ ?_;clear hK K)|(refine hK _ ?_;clear hK K))|((with_reducible refine gO ?_);(first|((with_reducible refine z25 ?_);intro K hK;(conv=>whnf))|(with_reducible refine z0 ?_)))|((first|((with_reducible refine gV ?_);(((with_reducible refine NV.i64 ?s ?_);case s=>omega)))|((with_reducible refine gI ?_);((((with_reducible refine NIf.yes ?s ?_);case s=>(simp ;done)))))|((with_reducible refine gN ?_);((((with_reducible refine NN.eq (n:=l.length) ?side ?_);case side=>omega))))|((with_reducible refine gH ?_);((with_reducible refine NH.mk ?s ?_);case s=>(and_intros<;>first|with_reducible rfl|((with_reducible refine gKept ?_);exact rfl)|omega)))|((with_reducible refine gC ?_);((with_reducible refine NCall.isF 63 ?_);refine NCall.subE [0] (cc) rfl (by decide) rfl rfl ?_)))<;>(conv=>whnf))|((refine nthK.of (hx) ?_)<;>(conv=>whnf))|((with_reducible refine gNRK ?_);((with_reducible refine st_ordSout ?_)))|((with_reducible refine gNOK ?_);(first|(refine st_ordK1 rfl (by kernel_rfl) rfl ?_;intro K hK;(conv=>whnf))|(refine st_ordK1g rfl (by kernel_rfl) rfl ?_;intro K hK;(conv=>whnf))|(refine st_ordK0 rfl (by kernel_rfl) ?_)|(refine st_ordKA rfl rfl (by kernel_rfl) (by intro h;cases h) ?_)))|((with_reducible refine gNEK ?_);(first|(refine st_eachKg rfl ?_ ?_;(intro K hK;(conv=>whnf)))|exact st_eachK0))|((with_reducible refine gX ?_);(first|(refine st_orderS [] rfl rfl (by kernel_rfl) _ rfl ?_)|(with_reducible first|refine z3 ?_|refine z4 ?_|refine z8 ?_)))|(with_reducible first|refine z1 ?_|refine z2 ?_)|((with_reducible refine gR ?_);((refine z31 rfl ?_);intro K hK;(conv=>whnf)))|((with_reducible refine gF ?_);((refine z33 rfl ?_);intro K hK;(conv=>whnf)))))
  all_goals exact ⟨rfl,rfl⟩
namespace Rt
theorem ints_know {f:FuncId} {args:List AV} {F:Heap} {t:TypeId} {m:List Blk} {l:List Int} {e:Int} (h:NCall Try.prog f args m fun r m'=>∃ v,r.den=(AV.tup [.hs v l.length,.int .i64 e]).den∧MemFits m' [hpB F,⟨addrOf v,Srt.av l,.row v t 1 l.length⟩]) :
    NCall Try.prog f args m fun r m'=>∃ F' v,F.le F'∧Tc.IRow F' v l∧r = .tup [.hs v l.length,.int .i64 e]∧m'=[hpB F']:=by
  refine Go.Sx.NCall.know h fun r m' ⟨u,hr,hm⟩ ⟨w,hw⟩=>?_
  have hok:=((hm w hw).1.row (List.mem_cons_of_mem _ (List.mem_cons_self ..))).1
  have hrow:=rowF_new (F:=F) (sz:=1) (enc:=fun z:Int=>[Value.int .i64 z]) hok (Tc.av_den l) (fun x _=>rfl)
  exact ⟨.tup [.hs u l.length,.int .i64 e],_,hr.symm,hm.trans (MemFits.freeze (m:=[])),_,u,addF.old,hrow,rfl,rfl⟩
theorem come_def {t:Tp.T} {r:List (List Int)} {h at_:Int} {x:Tp.Hs} {p:Int} (hx:t.hs[h.toNat]?=some x) (hp:prt r at_ h=some p):come t r h at_=(decide (x.at_=at_)&&decide (x.port=p)):=by
  unfold come
  rw [hx,hp]
end Rt
theorem walk21_c (F:Heap) (t:Tp.T) (lv hv v:Value) (r:List (List Int)) (ht:Tp.At F t lv hv) (hl:t.ls.length≤1000) (hh:t.hs.length≤1000) (hr:Rt.Row F v r) (hf:Rt.few r) (sw h:Int) :
    NCall Try.prog 43 [.agg (Tp.cs t lv hv),.hs v r.length,.int .i64 sw,.int .i64 h] [hpB F] fun u m=>∃ F' w,F.le F'∧Tc.IRow F' w (Rt.walk t r sw h).1∧u = .tup [.hs w (Rt.walk t r sw h).1.length,.int .i64 (Rt.walk t r sw h).2]∧m=[hpB F']:=by
  refine Rt.ints_know (t:=3) ?_
  have cp:=port21_c F v r hr hf sw h
  have cR:=right21_c F t lv hv v r ht hl hh hr hf
  have cN:=fun at_=>next21_c F t lv hv v r ht hl hr hf at_ h
  have hlo:=ht.l.ok
  have hho:=ht.h.ok
  have hok:=hr.ok
  have hg:=fun i x (hx:t.hs[i]?=some x)=>ht.h.get hx
  unfold Rt.walk
  unfold Tp.cs at cR cN ⊢
  refine ncall_of Try.func43 rfl (by decide) ?_
  cases hp:Rt.prt r sw h with
  | none =>
    rw [hp] at cp
    rw [if_pos (.inl rfl)]
    simp only [Rt.prtV] at cp
    (repeat' (first|(with_reducible first|(refine hK _ _ ?_;clear hK K)|(refine hA ?_;clear hA hB A B)|(refine hK _ ?_;clear hK K))|((with_reducible first|refine z25 ?_|refine z26 ?_);intro K hK;(conv=>whnf))|(with_reducible refine z0 ?_)|((first|with_reducible refine NIf.not_ ?_|((with_reducible refine NIf.yes ?s ?_);case s=>rfl)|((with_reducible refine NIf.no ?s ?_);case s=>rfl)|((with_reducible refine NCall.isF 53 ?_);refine NCall.subE [0] (cp) rfl (by decide) rfl rfl ?_))<;>(conv=>whnf))|(with_reducible first|refine z3 ?_|refine z4 ?_|refine z8 ?_)|((with_reducible refine z29 ?_);intro A B hA hB;(conv=>whnf))|(with_reducible first|refine z1 ?_|refine z2 ?_|refine z12 ?_)|((with_reducible refine gR ?_);(refine z31 rfl ?_;intro K hK;(conv=>whnf)))|((with_reducible refine gF ?_);(refine z33 rfl ?_;intro K hK;(conv=>whnf)))|((intro _;skip)<;>(conv=>whnf))))
    all_goals exact ⟨.slice none 0 0,rfl,(MemFits.pre 1 rfl).trans (MemFits.nilRow _ _ 1)⟩
  | some p0 =>
    rw [hp] at cp
    simp only [Rt.prtV] at cp
    cases hR:Rt.right t r with
    | false =>
      rw [hR] at cR
      rw [if_pos (.inr rfl)]
      (repeat' (first|(with_reducible first|(refine hK _ _ ?_;clear hK K)|(refine hA ?_;clear hA hB A B)|(refine hK _ ?_;clear hK K))|((with_reducible first|refine z25 ?_|refine z26 ?_);intro K hK;(conv=>whnf))|(with_reducible refine z0 ?_)|((first|with_reducible refine NIf.not_ ?_|((with_reducible refine NIf.yes ?s ?_);case s=>rfl)|((with_reducible refine NIf.no ?s ?_);case s=>rfl)|((with_reducible refine NH.mk ?s ?_);case s=>(and_intros<;>with_reducible rfl))|((with_reducible refine NCall.isF 53 ?_);refine NCall.subE [0] (cp) rfl (by decide) rfl rfl ?_)|((with_reducible refine NCall.isF 54 ?_);refine NCall.subE [0] (cR) rfl (by decide) rfl rfl ?_))<;>(conv=>whnf))|(with_reducible first|refine z3 ?_|refine z4 ?_|refine z8 ?_)|((with_reducible refine z29 ?_);intro A B hA hB;(conv=>whnf))|(with_reducible first|refine z1 ?_|refine z2 ?_|refine z12 ?_)|((with_reducible refine gR ?_);(refine z31 rfl ?_;intro K hK;(conv=>whnf)))|((with_reducible refine gF ?_);(refine z33 rfl ?_;intro K hK;(conv=>whnf)))|((intro _;skip)<;>(conv=>whnf))))
      all_goals exact ⟨.slice none 0 0,rfl,(MemFits.pre 1 rfl).trans (MemFits.nilRow _ _ 1)⟩
    | true =>
      rw [hR] at cR
      rw [if_neg (by simp)]
      obtain ⟨hT,hrn,hrows⟩:=Rt.right_parts hR
      obtain ⟨hn8,_,hh8,hlk⟩:=Rt.topo_parts hT
      obtain ⟨row,hs0,hh0,hrow,hcell⟩:=Rt.prt_in hp
      have hhl:h.toNat<t.hs.length:=by
        have h1:=(hrows row (List.mem_of_getElem? hrow)).1
        have h2:=(List.getElem?_eq_some_iff.1 hcell).1
        omega
      have hsl:=(List.getElem?_eq_some_iff.1 hrow).1
      have hxh:t.hs[h.toNat]?=some t.hs[h.toNat]:=List.getElem?_eq_getElem hhl
      obtain ⟨d0,d1⟩:=hg _ _ hxh
      have hcd:=fun at_ p (hp:Rt.prt r at_ h=some p)=>Rt.come_def (t:=t) (at_:=at_) hxh hp
      have hps:=fun at_ (h1:0≤at_) (h2:at_<t.n)=>Rt.prt_some hR h1 h2 hh0 (by omega)
      have hnn:=fun at_ b (hb:Rt.nxt t r at_ h=some b)=>Rt.nxt_in hT hb
      generalize t.hs[h.toNat]=x at *
      have hwk:∀ (m:Nat) (a:List Int) (y:Int),Rt.wk t r h (m+1) (a++[y])=if Rt.twice (a++[y])=true then ([],12) else if Rt.come t r h y=true then (a++[y],0) else match Rt.nxt t r y h with
          | none=>([],13)
          | some b=>Rt.wk t r h m (a++[y]++[b]):=fun m a y=>by
        rw [Rt.wk,List.getLast?_concat]
        rfl
      generalize hW:Rt.wk t r h 10 [sw]=W at *
      (repeat' (first|(with_reducible first|(refine hK _ _ ?_;clear hK K)|(refine hB ?_;clear hA hB A B)|(refine hK _ ?_;clear hK K))|((with_reducible first|refine z25 ?_|refine z26 ?_);intro K hK;(conv=>whnf))|(with_reducible refine z0 ?_)|((first|with_reducible refine NIf.not_ ?_|((with_reducible refine NIf.yes ?s ?_);case s=>rfl)|((with_reducible refine NH.mk ?s ?_);case s=>(and_intros<;>first|with_reducible rfl|((with_reducible refine gLen ?_);rfl)|omega))|((with_reducible refine NCall.isF 53 ?_);refine NCall.subE [0] (cp) rfl (by decide) rfl rfl ?_)|((with_reducible refine NCall.isF 54 ?_);refine NCall.subE [0] (cR) rfl (by decide) rfl rfl ?_))<;>(conv=>whnf))|(with_reducible first|refine z3 ?_|refine z4 ?_|refine z5 ?_|refine z6 ?_)|((with_reducible refine z29 ?_);intro A B hA hB;(conv=>whnf))|(with_reducible first|refine z1 ?_|refine z2 ?_)|((with_reducible refine gF ?_);(refine z33 rfl ?_;intro K hK;(conv=>whnf)))|((intro _;skip)<;>(conv=>whnf))))
      rename_i b1 b2
      refine st_auto (α:=Value × List Int × Int × Nat) (fun (w,a,y,n)=>(∀ z∈a++[y],0≤z∧z<t.n)∧a.Nodup∧a.length+n=10∧Rt.wk t r h n (a++[y])=W) (fun (w,a,y,n)=>[.keep,.keep,.keep,.keep,.keep,.keep,.keep,.keep,.set (.raw (.slice none 0 0)),.set (.int .i64 0),.keep,.keep,.set (.sl 2 w (a.length+1)),.drop,.drop,.drop,.keep,.keep,.keep,.keep,.keep,.keep,.keep,.keep,.keep,.keep,.keep,.keep,.keep,.keep,.keep,.keep,.keep,.drop,.drop,.drop,.drop,.drop,.drop,.drop,.drop,.drop,.drop,.drop,.drop,.drop,.drop,.drop,.drop,.drop,.drop,.drop,.drop,.drop,.drop,.drop,.drop,.drop,.drop,.drop,.drop,.drop,.drop,.drop,.drop,.drop,.drop,.drop,.drop,.drop,.drop,.drop])
        (fun (w,a,y,n)=>[.keep,.keep,.set ⟨addrOf w,Srt.av (a++[y]),.row w 3 1 (a.length+1)⟩]) (fun (w,a,y,n)=>n) (.slice (some ⟨b2,0,none⟩) 1 1,[],sw,10) ⟨fun z hz=>by
          rw [List.nil_append,List.mem_singleton] at hz
          subst hz
          omega,List.nodup_nil,rfl,hW⟩ ?_ (MemFits.eq rfl) ?_
      · repeat (first|exact FitsSl.nil|refine FitsSl.any ?_|refine FitsSl.cons (Fit1.int (by first | rfl | omega)) ?_|refine FitsSl.cons (Fit1.bool rfl) ?_|refine FitsSl.cons (Fit1.same (by intro h;cases h) (by with_reducible rfl)) ?_|refine FitsSl.cons (Fit1.sl rfl) ?_)
      (intro ⟨w,a,y,n⟩ ⟨hin,hnd,han,hwn⟩;intro K hK;(conv=>whnf);refine hK _ _ ?_;clear hK K)
      dsimp only
      have hal:a.length≤8:=by
        have:=Rt.nodup_len t.n.toNat a hnd fun z hz=>by
          have:=hin z (List.mem_append_left _ hz)
          omega
        omega
      obtain ⟨m,rfl⟩:∃ m,n=m+1:=⟨n - 1,by omega⟩
      rw [hwk] at hwn
      obtain ⟨hy0,hyn⟩:=hin y (by simp)
      obtain ⟨p,hpp⟩:=hps y hy0 hyn
      obtain ⟨row',_,_,hrow',hcell'⟩:=Rt.prt_in hpp
      obtain ⟨A,cap,hIr,c0⟩:=hr.get hrow'
      have g0:=hIr.get hcell'
      have hok':=hIr.ok
      have hyl:=(List.getElem?_eq_some_iff.1 hrow').1
      have hhl':=(List.getElem?_eq_some_iff.1 hcell').1
      have hcome:=hcd y p hpp
      have ct:=twice21_c w a y (by omega)
      have cn:=cN y
      have hlast:(Srt.av (a++[y]))[a.length]?=some (.int .i64 y):=av_get (by rw [List.getElem?_append_right (Nat.le_refl _),Nat.sub_self];rfl)
      by_cases htw:y∈a
      · rw [Rt.twice_iff.2 htw] at ct
        rw [if_pos (Rt.twice_iff.2 htw)] at hwn
        subst hwn
        (repeat' (first|(with_reducible first|(refine hK _ _ ?_;clear hK K)|(refine hB ?_;clear hA hB A B)|(refine hK _ ?_;clear hK K))|((with_reducible refine z25 ?_);intro K hK;(conv=>whnf))|(with_reducible refine z0 ?_)|((first|with_reducible refine NIf.not_ ?_|((with_reducible refine NIf.yes ?s ?_);case s=>rfl)|((with_reducible refine NCall.isF 55 ?_);refine NCall.subE [2] (ct) rfl (by decide) rfl rfl ?_))<;>(conv=>whnf))|(with_reducible first|refine z3 ?_|refine z4 ?_|refine z7 ?_|refine z8 ?_)|((with_reducible refine z29 ?_);intro A B hA hB;(conv=>whnf))|(with_reducible first|refine z1 ?_|refine z2 ?_|refine z10 ?_|refine z11 ?_|refine z19 ?_)|((with_reducible refine gR ?_);(refine z31 rfl ?_;intro K hK;(conv=>whnf)))))
        all_goals exact ⟨.slice none 0 0,rfl,(MemFits.pre 1 rfl).trans (MemFits.nilRow _ _ 1)⟩
      · have htf:Rt.twice (a++[y])=false:=by
          cases hb:Rt.twice (a++[y]) with
          | false=>rfl
          | true=>exact (htw (Rt.twice_iff.1 hb)).elim
        rw [htf] at ct hwn
        rw [if_neg (by simp)] at hwn
        have hones:Go.Sx.ones (Srt.av (a++[y]))=true:=by
          unfold Srt.av
          generalize a++[y]=l
          induction l with
          | nil=>rfl
          | cons z l ih=>simpa [Go.Sx.ones] using ih
        by_cases hc:x.at_=y∧x.port=p
        · rw [hcome,if_pos (by rw [decide_eq_true hc.1,decide_eq_true hc.2];rfl)] at hwn
          subst hwn
          have hll:(a++[y]).length=a.length+1:=by simp
          (repeat' (first|(with_reducible first|(refine hK _ _ ?_;clear hK K)|(refine hA ?_;clear hA hB A B)|(refine hK _ ?_;clear hK K))|((with_reducible refine gO ?_);(first|((with_reducible refine z25 ?_);intro K hK;(conv=>whnf))|(with_reducible refine z0 ?_)))|((first|((with_reducible refine gV ?_);(((with_reducible refine NV.i64 ?s ?_);case s=>omega)))|((with_reducible refine gI ?_);((((with_reducible refine NIf.yes ?s ?_);case s=>(simp [hc.1,hc.2];done)))))|((with_reducible refine gN ?_);(first|(((with_reducible refine NN.eq (n:=a.length) ?side ?_);case side=>omega))|(with_reducible first|refine NN.a2 ?_|refine NN.a5 ?_|refine NN.keep ?_)))|((with_reducible refine gH ?_);((with_reducible refine NH.mk ?s ?_);case s=>(and_intros<;>first|with_reducible rfl|omega|rfl)))|((with_reducible refine gC ?_);((with_reducible refine NCall.isF 55 ?_);refine NCall.subE [2] (ct) rfl (by decide) rfl rfl ?_))|(with_reducible refine NLd.of (by with_reducible assumption) ?_))<;>(conv=>whnf))|((refine nthK.of (hlast) ?_)<;>(conv=>whnf))|((with_reducible refine gNRK ?_);((with_reducible refine st_ordSout ?_)))|((with_reducible refine gNOK ?_);(first|(refine st_ordK1 rfl (by kernel_rfl) rfl ?_;intro K hK;(conv=>whnf))|(refine st_ordK0 rfl (by kernel_rfl) ?_)))|((with_reducible refine gX ?_);(first|(refine st_orderS [] rfl rfl (by kernel_rfl) _ rfl ?_)|(with_reducible first|refine z3 ?_|refine z4 ?_|refine z5 ?_|refine z6 ?_|refine z8 ?_)|((with_reducible refine z29 ?_);intro A B hA hB;(conv=>whnf))))|(with_reducible first|refine z1 ?_|refine z2 ?_|refine z12 ?_|refine z13 ?_|refine z20 ?_)|((with_reducible refine gR ?_);((refine z31 rfl ?_);intro K hK;(conv=>whnf)))|((refine NFlat_iff.2 ⟨⟨?s1,?s2⟩,?_⟩;(case s1=>decide +kernel);(case s2=>decide +kernel))<;>(conv=>whnf))))
          all_goals exact ⟨w,rfl,by rw [hll];exact MemFits.pick [0,2] (by decide) rfl⟩
        · rw [hcome,if_neg (by
            rw [Bool.and_eq_true,decide_eq_true_eq,decide_eq_true_eq]
            exact hc)] at hwn
          have hq2:∀ {b:Bool},(decide (x.at_=y)&&(decide (x.port=p)&&true))=b→b=false:=fun {b} hb=>by
            rw [← hb,Bool.and_true,Bool.eq_false_iff,ne_eq,Bool.and_eq_true,decide_eq_true_eq,decide_eq_true_eq]
            exact hc
          cases hnx:Rt.nxt t r y h with
          | none =>
            rw [hnx] at cn hwn
            simp only [Rt.prtV] at cn
            dsimp only at hwn
            subst hwn
            (repeat' (first|(with_reducible first|(refine hK _ _ ?_;clear hK K)|(refine hA ?_;clear hA hB A B)|(refine hB ?_;clear hA hB A B)|(refine hK _ ?_;clear hK K))|((with_reducible refine gO ?_);(first|((with_reducible refine z25 ?_);intro K hK;(conv=>whnf))|(with_reducible refine z0 ?_)))|((first|((with_reducible refine gV ?_);(((with_reducible refine NV.i64 ?s ?_);case s=>omega)))|((with_reducible refine gI ?_);(first|with_reducible refine NIf.not_ ?_|((with_reducible refine NIf.no ?s ?_);case s=>rfl)|(with_reducible refine NIf.both (fun _=>?_) (fun _=>?_))))|((with_reducible refine gN ?_);(first|(((with_reducible refine NN.eq (n:=a.length) ?side ?_);case side=>omega))|(with_reducible first|refine NN.a2 ?_|refine NN.a5 ?_|refine NN.keep ?_)))|((with_reducible refine gH ?_);((with_reducible refine NH.mk ?s ?_);case s=>(and_intros<;>first|with_reducible rfl|omega|rfl)))|((with_reducible refine gC ?_);(first|((with_reducible refine NCall.isF 55 ?_);refine NCall.subE [2] (ct) rfl (by decide) rfl rfl ?_)|((with_reducible refine NCall.isF 56 ?_);refine NCall.subE [0] (cn) rfl (by decide) rfl rfl ?_)))|(with_reducible refine NLd.of (by with_reducible assumption) ?_))<;>(conv=>whnf))|((refine nthK.of (hlast) ?_)<;>(conv=>whnf))|((with_reducible refine gNRK ?_);((with_reducible refine st_ordSout ?_)))|((with_reducible refine gNOK ?_);(first|(refine st_ordK1 rfl (by kernel_rfl) rfl ?_;intro K hK;(conv=>whnf))|(refine st_ordK0 rfl (by kernel_rfl) ?_)))|((with_reducible refine gX ?_);(first|(refine st_orderS [] rfl rfl (by kernel_rfl) _ rfl ?_)|(with_reducible first|refine z3 ?_|refine z4 ?_|refine z5 ?_|refine z6 ?_|refine z8 ?_)|((with_reducible refine z29 ?_);intro A B hA hB;(conv=>whnf))))|(with_reducible first|refine z1 ?_|refine z2 ?_|refine z12 ?_|refine z13 ?_|refine z20 ?_)|((with_reducible refine gR ?_);((refine z31 rfl ?_);intro K hK;(conv=>whnf)))|((refine NFlat_iff.2 ⟨⟨?s1,?s2⟩,?_⟩;(case s1=>decide +kernel);(case s2=>decide +kernel))<;>(conv=>whnf))))
            all_goals first
              | (exfalso;rename_i hq;exact Bool.noConfusion (hq2 hq))
              | exact ⟨.slice none 0 0,rfl,(MemFits.pre 1 rfl).trans (MemFits.nilRow _ _ 1)⟩
          | some b =>
            rw [hnx] at cn hwn
            simp only [Rt.prtV] at cn
            dsimp only at hwn
            have hb:=hnn y b hnx
            have hn2:Srt.av (a++[y]++[b])=Srt.av (a++[y])++[.int .i64 b]:=by rw [Srt.av_append];rfl
            have hll:(a++[y]).length=a.length+1:=by simp
            (repeat' (first|(with_reducible first|(refine hK _ _ ?_;clear hK K)|(refine hA ?_;clear hA hB A B)|(refine hB ?_;clear hA hB A B)|(refine hK _ ?_;clear hK K))|((with_reducible refine gO ?_);(first|((with_reducible refine z25 ?_);intro K hK;(conv=>whnf))|(with_reducible refine z0 ?_)))|((first|((with_reducible refine gV ?_);(((with_reducible refine NV.i64 ?s ?_);case s=>omega)))|((with_reducible refine gI ?_);(first|with_reducible refine NIf.not_ ?_|((with_reducible refine NIf.yes ?s ?_);case s=>rfl)|((with_reducible refine NIf.no ?s ?_);case s=>rfl)|(with_reducible refine NIf.both (fun _=>?_) (fun _=>?_))))|((with_reducible refine gN ?_);(first|(((with_reducible refine NN.eq (n:=a.length) ?side ?_);case side=>omega))|(with_reducible first|refine NN.a2 ?_|refine NN.a5 ?_|refine NN.keep ?_)))|((with_reducible refine gH ?_);((with_reducible refine NH.mk ?s ?_);case s=>(and_intros<;>first|with_reducible rfl|((with_reducible refine gOnes ?_);rfl)|((with_reducible refine gLen ?_);rfl)|omega|rfl)))|((with_reducible refine gC ?_);(first|((with_reducible refine NCall.isF 55 ?_);refine NCall.subE [2] (ct) rfl (by decide) rfl rfl ?_)|((with_reducible refine NCall.isF 56 ?_);refine NCall.subE [0] (cn) rfl (by decide) rfl rfl ?_)))|(with_reducible refine NLd.of (by with_reducible assumption) ?_))<;>(conv=>whnf))|((refine nthK.of (hlast) ?_)<;>(conv=>whnf))|((with_reducible refine gNRK ?_);((with_reducible refine st_ordSout ?_)))|((with_reducible refine gNOK ?_);(first|(refine st_ordK1 rfl (by kernel_rfl) rfl ?_;intro K hK;(conv=>whnf))|(refine st_ordK0 rfl (by kernel_rfl) ?_)))|((with_reducible refine gX ?_);(first|(refine st_orderS [] rfl rfl (by kernel_rfl) _ rfl ?_)|(with_reducible first|refine z3 ?_|refine z4 ?_|refine z5 ?_|refine z6 ?_|refine z8 ?_)|((with_reducible refine z29 ?_);intro A B hA hB;(conv=>whnf))))|(with_reducible first|refine z1 ?_|refine z2 ?_|refine z9 ?_|refine z12 ?_|refine z13 ?_|refine z20 ?_)|((with_reducible refine gR ?_);((refine z31 rfl ?_);intro K hK;(conv=>whnf)))|((refine NFlat_iff.2 ⟨⟨?s1,?s2⟩,?_⟩;(case s1=>decide +kernel);(case s2=>decide +kernel))<;>(conv=>whnf))|((intro _;skip)<;>(conv=>whnf))))
            all_goals first
              | (exfalso;rename_i hq;exact Bool.noConfusion (hq2 hq))
              | (exfalso;rename_i hq _;exact Bool.noConfusion (hq2 hq))
              | skip
            all_goals
              rename_i w2
              refine st_round (w2,a++[y],b,m) ⟨fun z hz=>?_,?_,by show (a++[y]).length+m=10;omega,hwn⟩ (Nat.lt_succ_self m) ?_ ?_
              · rcases List.mem_append.1 hz with hz | hz
                · exact hin z hz
                · rw [List.mem_singleton] at hz
                  subst hz
                  exact hb
              · rw [List.nodup_append]
                refine ⟨hnd,by simp,fun z hz z2 hz2 e=>?_⟩
                rw [List.mem_singleton] at hz2
                subst e hz2
                exact htw hz
              · repeat (first|exact FitsSl.nil|refine FitsSl.any ?_|refine FitsSl.cons (Fit1.int (by first | rfl | omega)) ?_|refine FitsSl.cons (Fit1.bool rfl) ?_|refine FitsSl.cons (Fit1.same (by intro h;cases h) (by with_reducible rfl)) ?_|refine FitsSl.cons (Fit1.sl rfl) ?_)
              · show MemFits _ [hpB F,_,⟨addrOf w2,Srt.av (a++[y]++[b]),.row w2 3 1 ((a++[y]).length+1)⟩]
                rw [hn2,hll]
                exact MemFits.pre 3 rfl
end Go.Proofs.Ytijkmhmgigaieaa
