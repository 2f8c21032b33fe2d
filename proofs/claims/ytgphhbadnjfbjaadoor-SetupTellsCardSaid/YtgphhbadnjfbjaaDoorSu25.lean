import Derived.Test.YtgphhbadnjfbjaaDoorSu23
import Derived.Test.YtgphhbadnjfbjaaDoorSu24
namespace Go.Proofs.YtgphhbadnjfbjaaDoor
open Go.Sx
set_option maxRecDepth 20000
set_option linter.unusedSimpArgs false
set_option linter.unusedVariables false
set_option maxHeartbeats 8000000
set_option linter.unusedVariables false
theorem refsets40_c (F:Heap) (s:List UInt8) (hs:s.length≤1000000) :
    NCall Tryd.prog 45 [.str s] [hpB F] fun r m=>∃ G v xs ok,F.le G∧Su.Hexs G v xs∧(ok=true→Su.all Su.hex (Su.sp 32 s).tail=some xs)∧(ok=false→Su.all Su.hex (Su.sp 32 s).tail=none)∧r = .tup [.hs v xs.length,.bool ok]∧m=[hpB G]:=by
  refine Go.Sx.NCall.know (K:=fun r m'=>∃ G v xs ok,F.le G∧(ok=true→Su.all Su.hex (Su.sp 32 s).tail=some xs)∧(ok=false→Su.all Su.hex (Su.sp 32 s).tail=none)∧r.den=(AV.tup [.raw (slOf v),.bool ok]).den∧MemFits m' [hpB G,⟨addrOf v,Su.hexAV xs,.row v 43 1 xs.length⟩]) ?_ fun r m' ⟨G,v,xs,ok,h1,h2,h3,h4,h5⟩ ⟨w0,hw0⟩=>?_
  rotate_left
  · have hok:=((h5 w0 hw0).1.row (List.mem_cons_of_mem _ (List.mem_cons_self ..))).1
    have hrow:=rowF_new (F:=G) (sz:=1) (enc:=Su.hexV) hok (Su.hexAV_den xs) (fun x _=>rfl)
    refine ⟨.tup [.hs v xs.length,.bool ok],_,?_,h5.trans (MemFits.freeze (m:=[])),_,v,xs,ok,h1.trans addF.old,hrow,h2,h3,rfl,rfl⟩
    rw [h4];rfl
  have cs:=refsplit40_c F s hs
  have hsub:=fun x hx=>Su.sp_sub 32 s x hx
  have hsl:=Su.sp_len 32 s
  cases e:Su.sp 32 s with
  | nil=>exact (Su.sp_ne 32 s e).elim
  | cons a p =>
    rw [e] at cs hsub hsl
    rw [List.length_cons] at hsl
    have cs:=cs.mono fun r m h=>show ∃ G u,F.le G∧Su.strs G u (a::p)∧SlOk u (p.length+1)∧r = .hs u (p.length+1)∧m=[hpB G] from by
      obtain ⟨G,u,h1,h2,h3,h4⟩:=h
      exact ⟨G,u,h1,h2,h2.ok,h3,h4⟩
    have hsub:∀ x∈p,x.length≤1000000:=fun x hx=>Nat.le_trans (hsub x (List.mem_cons_of_mem _ hx)) hs
    rw [List.tail_cons]
    refine ncall_of Tryd.func45 rfl (by decide) ?_
    (repeat' (first|(with_reducible first|(refine hK _ _ ?_;clear hK K)|(refine hK _ ?_;clear hK K))|((with_reducible refine z25 ?_);intro K hK;(conv=>whnf))|(with_reducible refine z0 ?_)|(((with_reducible refine NCall.isF 43 ?_);refine NCall.subw [0] _ _ (cs) rfl (by decide) rfl ?_;rintro _ _ ⟨G,u,hG,hu,hok,rfl,rfl⟩;refine ⟨Nat.le_of_ble_eq_true rfl,_,rfl,?_⟩)<;>(conv=>whnf))|(with_reducible first|refine z3 ?_|refine z4 ?_|refine z5 ?_|refine z1 ?_|refine z2 ?_)|((with_reducible refine gF ?_);(refine z33 rfl ?_;intro K hK;(conv=>whnf)))))
    refine st_auto (α:=Nat × List Nat × Value) (fun (k,xs,q)=>k≤p.length∧Su.all Su.hex (p.take k)=some xs∧xs.length=k) (fun (k,xs,q)=>[.keep,.keep,.set (.raw (.slice none 0 0)),.set (.bool false),.keep,.set (.sl 1 q xs.length),.set (.int .i64 (k+1:Nat)),.drop,.drop,.keep,.keep,.drop,.drop,.drop,.drop,.drop,.drop,.drop,.drop,.drop,.drop,.drop,.drop,.drop,.drop,.drop,.drop,.drop,.drop,.drop,.drop,.keep]) (fun (k,xs,q)=>[.keep,.set ⟨addrOf q,Su.hexAV xs,.row q 43 1 xs.length⟩]) (fun (k,xs,q)=>p.length - k) (0,[],.slice none 0 0) ⟨Nat.zero_le _,rfl,rfl⟩ ?_ ?_ ?_
    · repeat (first|exact FitsSl.nil|refine FitsSl.any ?_|refine FitsSl.cons (Fit1.int (by first | rfl | omega)) ?_|refine FitsSl.cons (Fit1.bool rfl) ?_|refine FitsSl.cons (Fit1.str rfl) ?_|refine FitsSl.cons (Fit1.same (by intro h;cases h) (by with_reducible rfl)) ?_|refine FitsSl.cons Fit1.nil_sl ?_)
    · exact MemFits.nilRow _ _ _
    (intro ⟨k,xs,q⟩ ⟨hk,hxs,hxl⟩;intro K hK;(conv=>whnf);refine hK _ _ ?_;clear hK K)
    dsimp only at hk hxs hxl ⊢
    by_cases hlt:k<p.length
    · have e0:G.c ((addrOf u).add (k+1)) (.string ⟨p[k].toArray⟩):=RowF.get1 (f0:=fun x:List UInt8=>.string ⟨x.toArray⟩) hu (k:=k+1) (by simp;omega)
      obtain ⟨s1,s2⟩:=Su.all_step p k hlt xs hxs
      have cn:=refhexa40_c p[k] (hsub _ (List.getElem_mem hlt))
      generalize p[k]=y at *
      cases hn:Su.hex y with
      | none =>
        rw [hn] at cn
        rw [s1 hn]
        (repeat' (first|(with_reducible first|(refine hK _ _ ?_;clear hK K)|(refine hA ?_;clear hA hB A B)|(refine hK _ ?_;clear hK K))|((with_reducible refine z25 ?_);intro K hK;(conv=>whnf))|(with_reducible refine z0 ?_)|((first|with_reducible refine NIf.not_ ?_|((with_reducible refine NIf.decY ?s ?_);case s=>omega)|((with_reducible refine NIf.no ?s ?_);case s=>rfl)|(with_reducible first|refine NN.cast ?_|refine NN.a2 ?_)|((with_reducible refine NH.mk ?s ?_);case s=>(and_intros<;>omega))|((with_reducible refine NCall.isF 52 ?_);refine NCall.pure (cn) ?_;rintro _ _ ⟨x,rfl,hxb,hxx⟩;refine ⟨_,rfl,?_⟩)|(with_reducible refine NLd.of (by with_reducible assumption) ?_))<;>(conv=>whnf))|(with_reducible first|refine z3 ?_|refine z4 ?_|refine z5 ?_|refine z6 ?_|refine z8 ?_)|((with_reducible refine z29 ?_);intro A B hA hB;(conv=>whnf))|(with_reducible first|refine z1 ?_|refine z2 ?_|refine z12 ?_|refine z13 ?_|refine z20 ?_)|((with_reducible refine gR ?_);(refine z31 rfl ?_;intro K hK;(conv=>whnf)))))
        all_goals exact ⟨G,.slice none 0 0,[],false,hG,fun h=>(by cases h),fun _=>rfl,rfl,(MemFits.pre 1 rfl).trans (MemFits.nilRow _ _ _)⟩
      | some n =>
        rw [hn] at cn
        have cn:=cn.mono fun r m h=>show r = .tup [(.int .u64 n),.bool true] from by
          obtain ⟨x,h1,hb,h2⟩:=h
          rw [h1,h2 n rfl];rfl
        (repeat' (first|(with_reducible first|(refine hK _ _ ?_;clear hK K)|(refine hA ?_;clear hA hB A B)|(refine hB ?_;clear hA hB A B))|((with_reducible refine z25 ?_);intro K hK;(conv=>whnf))|(with_reducible refine z0 ?_)|((first|((with_reducible refine NV.i64 ?s ?_);case s=>omega)|with_reducible refine NIf.not_ ?_|((with_reducible refine NIf.decY ?s ?_);case s=>omega)|((with_reducible refine NIf.yes ?s ?_);case s=>rfl)|(with_reducible first|refine NN.cast ?_|refine NN.a2 ?_)|((with_reducible refine NH.mk ?s ?_);case s=>(and_intros<;>first|with_reducible rfl|((with_reducible refine gOnes ?_);rfl)|((with_reducible refine gLen ?_);rfl)|omega))|((with_reducible refine NCall.isF 52 ?_);refine NCall.pureE (cn) ?_)|(with_reducible refine NLd.of (by with_reducible assumption) ?_))<;>(conv=>whnf))|(with_reducible first|refine z3 ?_|refine z4 ?_|refine z5 ?_|refine z6 ?_)|((with_reducible refine z29 ?_);intro A B hA hB;(conv=>whnf))|(with_reducible first|refine z1 ?_|refine z2 ?_|refine z9 ?_)|((intro _;skip)<;>(conv=>whnf))))
        all_goals rename_i w2
        all_goals refine st_round (k+1,xs++[n],w2) ⟨hlt,s2 n hn,by rw [List.length_append,hxl];rfl⟩ (by dsimp only;omega) ?_ ?_
        · dsimp only
          rw [List.length_append]
          repeat (first|exact FitsSl.nil|refine FitsSl.any ?_|refine FitsSl.cons (Fit1.int (by first | rfl | omega)) ?_|refine FitsSl.cons (Fit1.bool rfl) ?_|refine FitsSl.cons (Fit1.str rfl) ?_|refine FitsSl.cons (Fit1.same (by intro h;cases h) (by with_reducible rfl)) ?_|refine FitsSl.cons (Fit1.sl rfl) ?_)
        · dsimp only
          rw [List.length_append]
          unfold Su.hexAV
          rw [List.map_append]
          exact MemFits.pre 2 rfl
    · obtain rfl:k=p.length:=by omega
      rw [List.take_length] at hxs
      rw [hxs]
      (repeat' (first|(with_reducible first|(refine hK _ _ ?_;clear hK K)|(refine hB ?_;clear hA hB A B)|(refine hK _ ?_;clear hK K))|((with_reducible refine z25 ?_);intro K hK;(conv=>whnf))|(with_reducible refine z0 ?_)|((first|((with_reducible refine NIf.decN ?s ?_);case s=>omega)|((with_reducible refine NH.mk ?s ?_);case s=>(and_intros<;>omega)))<;>(conv=>whnf))|(with_reducible first|refine z3 ?_|refine z4 ?_|refine z7 ?_|refine z8 ?_)|((with_reducible refine z29 ?_);intro A B hA hB;(conv=>whnf))|(with_reducible first|refine z1 ?_|refine z2 ?_|refine z10 ?_|refine z11 ?_|refine z19 ?_)|((with_reducible refine gR ?_);(refine z31 rfl ?_;intro K hK;(conv=>whnf)))))
      all_goals first | (exfalso;omega) | exact ⟨G,q,xs,true,hG,fun _=>rfl,fun h=>(by cases h),rfl,MemFits.pre 2 rfl⟩
end Go.Proofs.YtgphhbadnjfbjaaDoor
