import Derived.Test.YtijkmhmgigaieaaRt5
namespace Go.Proofs.Ytijkmhmgigaieaa
open Go.Sx
set_option maxRecDepth 20000
set_option linter.unusedSimpArgs false
set_option linter.unusedVariables false
set_option maxHeartbeats 4000000
set_option linter.unusedVariables false
set_option linter.unnecessarySimpa false
theorem Rt.prt_none {t:Tp.T} {r:List (List Int)} (hR:Rt.right t r=true) {sw h:Int} (hp:¬(0≤sw∧sw<r.length∧0≤h∧h<t.hs.length)):Rt.prt r sw h=none:=by
  obtain ⟨_,_,hrows⟩:=Rt.right_parts hR
  cases hq:Rt.prt r sw h with
  | none=>rfl
  | some p =>
    obtain ⟨row,a1,a2,a3,a4⟩:=Rt.prt_in hq
    have a5:=(List.getElem?_eq_some_iff.1 a3).1
    have a6:=(List.getElem?_eq_some_iff.1 a4).1
    have a7:=(hrows row (List.mem_of_getElem? a3)).1
    exact (hp ⟨a1,by omega,a2,by omega⟩).elim
theorem refwalk21_c (F:Heap) (t:Tp.T) (lv hv v:Value) (r:List (List Int)) (ht:Tp.At F t lv hv) (hl:t.ls.length≤1000) (hh:t.hs.length≤1000) (hr:Rt.Row F v r) (hf:Rt.few r) (sw h:Int) :
    NCall Try.prog 10 [.agg (Tp.cs t lv hv),.hs v r.length,.int .i64 sw,.int .i64 h] [hpB F] fun u m=>∃ F' w,F.le F'∧Tc.IRow F' w (Rt.walk t r sw h).1∧u = .tup [.hs w (Rt.walk t r sw h).1.length,.int .i64 (Rt.walk t r sw h).2]∧m=[hpB F']:=by
  rw [← Rt.rwalk_eq]
  refine Rt.ints_know (t:=3) ?_
  have cR:=refright21_c F t lv hv v r ht hl hh hr hf
  have hlo:=ht.l.ok
  have hho:=ht.h.ok
  have hok:=hr.ok
  have hf1:=hf.1
  unfold Rt.rwalk
  cases hR:Rt.right t r with
  | false =>
    rw [hR] at cR
    rw [if_pos (.inr rfl)]
    unfold Tp.cs at cR ⊢
    refine ncall_of Try.func10 rfl (by decide) ?_
    (repeat' (first|(with_reducible first|(refine hK _ _ ?_;clear hK K)|(refine hA ?_;clear hA hB A B)|(refine hK _ ?_;clear hK K))|((with_reducible first|refine z25 ?_|refine z26 ?_);intro K hK;(conv=>whnf))|(with_reducible refine z0 ?_)|((first|with_reducible refine NIf.not_ ?_|((with_reducible refine NIf.yes ?s ?_);case s=>rfl)|((with_reducible refine NIf.no ?s ?_);case s=>rfl)|((with_reducible refine NH.mk ?s ?_);case s=>(and_intros<;>with_reducible rfl))|((with_reducible refine NCall.isF 23 ?_);refine NCall.subE [0] (cR) rfl (by decide) rfl rfl ?_))<;>(conv=>whnf))|(with_reducible first|refine z3 ?_|refine z4 ?_|refine z8 ?_)|((with_reducible refine z29 ?_);intro A B hA hB;(conv=>whnf))|(with_reducible first|refine z1 ?_|refine z2 ?_|refine z12 ?_)|((with_reducible refine gR ?_);(refine z31 rfl ?_;intro K hK;(conv=>whnf)))|((with_reducible refine gF ?_);(refine z33 rfl ?_;intro K hK;(conv=>whnf)))|((intro _;skip)<;>(conv=>whnf))))
    all_goals exact ⟨.slice none 0 0,rfl,(MemFits.pre 1 rfl).trans (MemFits.nilRow _ _ 1)⟩
  | true =>
    have cS:=fun n hn h1 h2 h3 h4=>refsteps21_c F t lv hv v r ht hl hr hf hR sw h n hn h1 h2 h3 h4
    have hpn:=fun hp=>Rt.prt_none (sw:=sw) (h:=h) hR hp
    obtain ⟨hT,hrn,hrows⟩:=Rt.right_parts hR
    obtain ⟨hn8,_,hh8,hlk⟩:=Rt.topo_parts hT
    rw [hR] at cR
    have hps:=fun (h1:0≤sw) (h2:sw<t.n) (h3:0≤h) (h4:h<t.hs.length)=>Rt.prt_some hR h1 h2 h3 h4
    by_cases hin:0≤sw∧sw<r.length∧0≤h∧h<t.hs.length
    · obtain ⟨h1,h2,h3,h4⟩:=hin
      obtain ⟨p0,hp0⟩:=hps h1 (by omega) h3 h4
      rw [if_neg (by rw [hp0];simp)]
      have hrs:∀ k n out,Rt.rwk t r h sw (k+1) n out=if (Rt.stp t r h n sw).1 = -1 then ([],13) else if (Rt.stp t r h n sw).2=true then (out++[(Rt.stp t r h n sw).1],0) else Rt.rwk t r h sw k (n+1) (out++[(Rt.stp t r h n sw).1]):=fun k n out=>rfl
      have hr0:∀ n out,Rt.rwk t r h sw 0 n out=if (Rt.stp t r h n sw).1 = -1 then ([],13) else ([],12):=fun n out=>rfl
      obtain ⟨N,hN⟩:=Int.eq_ofNat_of_zero_le (show 0≤t.n by omega)
      rw [show t.n.toNat=N by omega]
      generalize hW:Rt.rwk t r h sw N 0 []=W at *
      have cs:=fun (n:Nat) (hn:n≤N)=>cS n (by omega) h1 (by omega) h3 h4
      clear cS hpn hps
      unfold Tp.cs at cR cs ⊢
      rw [hN] at cR cs ⊢
      refine ncall_of Try.func10 rfl (by decide) ?_
      (repeat' (first|(with_reducible first|(refine hK _ _ ?_;clear hK K)|(refine hB ?_;clear hA hB A B)|(refine hK _ ?_;clear hK K))|((with_reducible first|refine z25 ?_|refine z26 ?_);intro K hK;(conv=>whnf))|(with_reducible refine z0 ?_)|((first|with_reducible refine NIf.not_ ?_|((with_reducible refine NIf.decN ?s ?_);case s=>omega)|((with_reducible refine NIf.yes ?s ?_);case s=>rfl)|(with_reducible refine NN.a5 ?_)|((with_reducible refine NH.mk ?s ?_);case s=>(and_intros<;>first|with_reducible rfl|omega))|((with_reducible refine NCall.isF 23 ?_);refine NCall.subE [0] (cR) rfl (by decide) rfl rfl ?_))<;>(conv=>whnf))|(with_reducible first|refine z3 ?_|refine z4 ?_|refine z5 ?_|refine z6 ?_)|((with_reducible refine z29 ?_);intro A B hA hB;(conv=>whnf))|(with_reducible first|refine z1 ?_|refine z2 ?_)|((with_reducible refine gF ?_);(refine z33 rfl ?_;intro K hK;(conv=>whnf)))|((intro _;skip)<;>(conv=>whnf))))
      all_goals first | (exfalso;omega) | skip
      refine st_auto (α:=Value × List Int × Nat) (fun (w,l,n)=>n≤N∧l.length=n∧Rt.rwk t r h sw (N - n) n l=W) (fun (w,l,n)=>[.keep,.keep,.keep,.keep,.keep,.keep,.keep,.keep,.set (.raw (.slice none 0 0)),.set (.int .i64 0),.set (.sl 2 w l.length),.set (.int .i64 n),.drop,.drop,.keep,.keep,.keep,.keep,.keep,.keep,.keep,.keep,.keep,.keep,.keep,.keep,.keep,.keep,.keep,.keep,.keep,.keep,.keep,.keep,.keep,.keep,.keep,.keep,.keep,.keep,.keep,.drop,.drop,.drop,.drop,.drop,.drop,.drop,.drop,.drop,.drop,.drop,.drop,.drop,.drop,.drop,.drop,.drop,.drop,.drop,.drop,.drop,.drop,.drop,.keep,.keep,.keep,.keep,.keep,.keep,.keep,.keep,.keep,.keep,.keep,.keep])
        (fun (w,l,n)=>[.keep,.keep,.set ⟨addrOf w,Srt.av l,.row w 3 1 l.length⟩]) (fun (w,l,n)=>N - n) (.slice none 0 0,[],0) ⟨Nat.zero_le _,rfl,hW⟩ ?_ (MemFits.nilRow _ _ 1) ?_
      · repeat (first|exact FitsSl.nil|refine FitsSl.any ?_|refine FitsSl.cons (Fit1.int (by first | rfl | omega)) ?_|refine FitsSl.cons (Fit1.bool rfl) ?_|refine FitsSl.cons (Fit1.same (by intro h;cases h) (by with_reducible rfl)) ?_|refine FitsSl.cons Fit1.nil_sl ?_)
      (intro ⟨w,l,n⟩ ⟨hn,hln,hw⟩;intro K hK;(conv=>whnf);refine hK _ _ ?_;clear hK K)
      dsimp only
      have cn:=cs n hn
      have hones:Go.Sx.ones (Srt.av l)=true:=by
        unfold Srt.av
        generalize l=l
        induction l with
        | nil=>rfl
        | cons z l ih=>simpa [Go.Sx.ones] using ih
      by_cases hnN:n<N
      · rw [show N - n=(N - n - 1)+1 by omega,hrs] at hw
        generalize Rt.stp t r h n sw=q at *
        obtain ⟨q1,q2⟩:=q
        dsimp only at cn hw
        have hn2:Srt.av (l++[q1])=Srt.av l++[.int .i64 q1]:=by rw [Srt.av_append];rfl
        have hll:(l++[q1]).length=l.length+1:=by simp
        by_cases hq1:q1 = -1
        · rw [if_pos hq1] at hw
          subst hw
          (repeat' (first|(with_reducible first|(refine hK _ _ ?_;clear hK K)|(refine hA ?_;clear hA hB A B)|(refine hK _ ?_;clear hK K))|((with_reducible refine z25 ?_);intro K hK;(conv=>whnf))|(with_reducible refine z0 ?_)|((first|((with_reducible refine NIf.decY ?s ?_);case s=>first|assumption|omega)|(with_reducible refine NN.a5 ?_)|((with_reducible refine NH.mk ?s ?_);case s=>(and_intros<;>with_reducible rfl))|((with_reducible refine NCall.isF 24 ?_);refine NCall.subE [0] (cn) rfl (by decide) rfl rfl ?_))<;>(conv=>whnf))|(with_reducible first|refine z3 ?_|refine z4 ?_|refine z5 ?_|refine z6 ?_|refine z8 ?_)|((with_reducible refine z29 ?_);intro A B hA hB;(conv=>whnf))|(with_reducible first|refine z1 ?_|refine z2 ?_|refine z12 ?_|refine z13 ?_|refine z20 ?_)|((with_reducible refine gR ?_);(refine z31 rfl ?_;intro K hK;(conv=>whnf)))))
          all_goals first | (exfalso;omega) | exact ⟨.slice none 0 0,rfl,(MemFits.pre 1 rfl).trans (MemFits.nilRow _ _ 1)⟩
        · rw [if_neg hq1] at hw
          cases q2 with
          | true =>
            rw [if_pos rfl] at hw
            subst hw
            (repeat' (first|(with_reducible first|(refine hK _ _ ?_;clear hK K)|(refine hA ?_;clear hA hB A B)|(refine hB ?_;clear hA hB A B)|(refine hK _ ?_;clear hK K))|((with_reducible refine z25 ?_);intro K hK;(conv=>whnf))|(with_reducible refine z0 ?_)|((first|((with_reducible refine NIf.decY ?s ?_);case s=>omega)|((with_reducible refine NIf.decN ?s ?_);case s=>assumption)|((with_reducible refine NIf.yes ?s ?_);case s=>rfl)|(with_reducible refine NN.a5 ?_)|((with_reducible refine NH.mk ?s ?_);case s=>(and_intros<;>first|with_reducible rfl|((with_reducible refine gOnes ?_);rfl)|((with_reducible refine gLen ?_);rfl)|omega))|((with_reducible refine NCall.isF 24 ?_);refine NCall.subE [0] (cn) rfl (by decide) rfl rfl ?_))<;>(conv=>whnf))|(with_reducible first|refine z3 ?_|refine z4 ?_|refine z5 ?_|refine z6 ?_|refine z8 ?_)|((with_reducible refine z29 ?_);intro A B hA hB;(conv=>whnf))|(with_reducible first|refine z1 ?_|refine z2 ?_|refine z12 ?_|refine z13 ?_|refine z20 ?_)|((with_reducible refine gR ?_);(refine z31 rfl ?_;intro K hK;(conv=>whnf)))|((intro _;skip)<;>(conv=>whnf))))
            all_goals first | (exfalso;omega) | skip
            all_goals
              rename_i w2
              exact ⟨w2,by rw [hll];rfl,by rw [hn2,hll];exact MemFits.pick [0,2] (by decide) rfl⟩
          | false =>
            rw [if_neg (by decide)] at hw
            (repeat' (first|(with_reducible first|(refine hK _ _ ?_;clear hK K)|(refine hA ?_;clear hA hB A B)|(refine hB ?_;clear hA hB A B))|((with_reducible refine z25 ?_);intro K hK;(conv=>whnf))|(with_reducible refine z0 ?_)|((first|((with_reducible refine NV.i64 ?s ?_);case s=>omega)|((with_reducible refine NIf.decY ?s ?_);case s=>omega)|((with_reducible refine NIf.decN ?s ?_);case s=>assumption)|((with_reducible refine NIf.no ?s ?_);case s=>rfl)|(with_reducible refine NN.a5 ?_)|((with_reducible refine NH.mk ?s ?_);case s=>(and_intros<;>first|with_reducible rfl|((with_reducible refine gOnes ?_);rfl)|((with_reducible refine gLen ?_);rfl)|omega))|((with_reducible refine NCall.isF 24 ?_);refine NCall.subE [0] (cn) rfl (by decide) rfl rfl ?_))<;>(conv=>whnf))|(with_reducible first|refine z3 ?_|refine z4 ?_|refine z5 ?_|refine z6 ?_)|((with_reducible refine z29 ?_);intro A B hA hB;(conv=>whnf))|(with_reducible first|refine z1 ?_|refine z2 ?_|refine z9 ?_)|((intro _;skip)<;>(conv=>whnf))))
            all_goals first | (exfalso;omega) | skip
            all_goals
              rename_i w2
              refine st_round (w2,l++[q1],n+1) ⟨hnN,by rw [hll,hln],by rw [show N - (n+1)=N - n - 1 by omega];exact hw⟩ (by show N - (n+1)<N - n;omega) ?_ ?_
              · dsimp only
                rw [hll]
                repeat (first|exact FitsSl.nil|refine FitsSl.any ?_|refine FitsSl.cons (Fit1.int (by first | rfl | omega)) ?_|refine FitsSl.cons (Fit1.bool rfl) ?_|refine FitsSl.cons (Fit1.same (by intro h;cases h) (by with_reducible rfl)) ?_)
              · dsimp only
                rw [hn2,hll]
                exact MemFits.pre 3 rfl
      · have hie:n=N:=by omega
        subst hie
        rw [Nat.sub_self,hr0] at hw
        generalize Rt.stp t r h n sw=q at *
        obtain ⟨q1,q2⟩:=q
        dsimp only at cn hw
        by_cases hq1:q1 = -1
        · rw [if_pos hq1] at hw
          subst hw
          (repeat' (first|(with_reducible first|(refine hK _ _ ?_;clear hK K)|(refine hA ?_;clear hA hB A B)|(refine hB ?_;clear hA hB A B)|(refine hK _ ?_;clear hK K))|((with_reducible refine z25 ?_);intro K hK;(conv=>whnf))|(with_reducible refine z0 ?_)|((first|((with_reducible refine NIf.decY ?s ?_);case s=>assumption)|((with_reducible refine NIf.decN ?s ?_);case s=>omega)|(with_reducible refine NN.a5 ?_)|((with_reducible refine NH.mk ?s ?_);case s=>(and_intros<;>with_reducible rfl))|((with_reducible refine NCall.isF 24 ?_);refine NCall.subE [0] (cn) rfl (by decide) rfl rfl ?_))<;>(conv=>whnf))|(with_reducible first|refine z3 ?_|refine z4 ?_|refine z7 ?_|refine z8 ?_)|((with_reducible refine z29 ?_);intro A B hA hB;(conv=>whnf))|(with_reducible first|refine z1 ?_|refine z2 ?_|refine z10 ?_|refine z11 ?_|refine z12 ?_|refine z19 ?_)|((with_reducible refine gR ?_);(refine z31 rfl ?_;intro K hK;(conv=>whnf)))))
          all_goals first | (exfalso;omega) | exact ⟨.slice none 0 0,rfl,(MemFits.pre 1 rfl).trans (MemFits.nilRow _ _ 1)⟩
        · rw [if_neg hq1] at hw
          subst hw
          (repeat' (first|(with_reducible first|(refine hK _ _ ?_;clear hK K)|(refine hB ?_;clear hA hB A B)|(refine hK _ ?_;clear hK K))|((with_reducible refine z25 ?_);intro K hK;(conv=>whnf))|(with_reducible refine z0 ?_)|((first|((with_reducible refine NIf.decN ?s ?_);case s=>first|assumption|omega)|(with_reducible refine NN.a5 ?_)|((with_reducible refine NH.mk ?s ?_);case s=>(and_intros<;>with_reducible rfl))|((with_reducible refine NCall.isF 24 ?_);refine NCall.subE [0] (cn) rfl (by decide) rfl rfl ?_))<;>(conv=>whnf))|(with_reducible first|refine z3 ?_|refine z4 ?_|refine z6 ?_|refine z7 ?_|refine z8 ?_)|((with_reducible refine z29 ?_);intro A B hA hB;(conv=>whnf))|(with_reducible first|refine z1 ?_|refine z2 ?_|refine z10 ?_|refine z11 ?_|refine z19 ?_)|((with_reducible refine gR ?_);(refine z31 rfl ?_;intro K hK;(conv=>whnf)))))
          all_goals first | (exfalso;omega) | exact ⟨.slice none 0 0,rfl,(MemFits.pre 1 rfl).trans (MemFits.nilRow _ _ 1)⟩
    · rw [if_pos (.inl (hpn hin))]
      unfold Tp.cs at cR ⊢
      refine ncall_of Try.func10 rfl (by decide) ?_
      (repeat' (first|(with_reducible first|(refine hK _ _ ?_;clear hK K)|(refine hA ?_;clear hA hB A B)|(refine hK _ ?_;clear hK K))|((with_reducible first|refine z25 ?_|refine z26 ?_);intro K hK;(conv=>whnf))|(with_reducible refine z0 ?_)|((first|with_reducible refine NIf.not_ ?_|((with_reducible refine NIf.decY ?s ?_);case s=>first|assumption|omega)|((with_reducible refine NIf.decN ?s ?_);case s=>assumption)|((with_reducible refine NIf.yes ?s ?_);case s=>rfl)|(with_reducible first|refine NIf.dec (fun _=>?_) (fun _=>?_)|refine NN.a5 ?_)|((with_reducible refine NH.mk ?s ?_);case s=>(and_intros<;>first|with_reducible rfl|omega))|((with_reducible refine NCall.isF 23 ?_);refine NCall.subE [0] (cR) rfl (by decide) rfl rfl ?_))<;>(conv=>whnf))|(with_reducible first|refine z3 ?_|refine z4 ?_|refine z8 ?_)|((with_reducible refine z29 ?_);intro A B hA hB;(conv=>whnf))|(with_reducible first|refine z1 ?_|refine z2 ?_|refine z12 ?_)|((with_reducible refine gR ?_);(refine z31 rfl ?_;intro K hK;(conv=>whnf)))|((with_reducible refine gF ?_);(refine z33 rfl ?_;intro K hK;(conv=>whnf)))|((intro _;skip)<;>(conv=>whnf))))
      all_goals first | (exfalso;omega) | exact ⟨.slice none 0 0,rfl,(MemFits.pre 1 rfl).trans (MemFits.nilRow _ _ 1)⟩
end Go.Proofs.Ytijkmhmgigaieaa
