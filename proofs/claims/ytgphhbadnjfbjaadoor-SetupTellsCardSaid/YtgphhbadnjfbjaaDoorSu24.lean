import Derived.Test.YtgphhbadnjfbjaaDoorSu22
namespace Go.Proofs.YtgphhbadnjfbjaaDoor
open Go.Sx
set_option maxRecDepth 20000
set_option linter.unusedSimpArgs false
set_option linter.unusedVariables false
set_option maxHeartbeats 8000000
set_option linter.unusedVariables false
namespace Su
def intR (s:L) (mo:Option Nat):Option (List Int):=match all num (sp 32 s).tail with
  | none=>none
  | some xs=>if mo.all (fun m=>decide (xs.length=m))=true then some xs else none
theorem cut_drop {w:L} {ls:List L} {i:Nat} (h:i+1<ls.length):cut w (ls.drop i)=if (sp 32 (ls[i]'(by omega))).head?=some w then some ((sp 32 (ls[i]'(by omega))).tail,ls.drop (i+1)) else none:=by
  rw [List.drop_eq_getElem_cons (by omega:i<ls.length),List.drop_eq_getElem_cons h]
  rfl
theorem cut_short {w:L} {ls:List L} {i:Nat} (h:ls.length≤i+1):cut w (ls.drop i)=none:=by
  have:(ls.drop i).length≤1:=by rw [List.length_drop];omega
  match ls.drop i,this with
  | [],_=>rfl
  | [x],_=>rfl
end Su
theorem refwhole40_c (F:Heap) (v:Value) (ls:List (List UInt8)) (hv:Su.strs F v ls) (hl:ls.length≤2000000) (hx:∀ x∈ls,x.length≤1000000) (i:Nat) (hi:i≤2000010) (w:List UInt8) :
    NCall Tryd.prog 19 [.hs v ls.length,.int .i64 i,.str w] [hpB F] fun r m=>r = .bool (Su.cut w (ls.drop i)).isSome∧∃ G,F.le G∧m=[hpB G]:=by
  refine NCall.fits (K:=fun r m=>r = .bool (Su.cut w (ls.drop i)).isSome∧∃ G,F.le G∧MemFits m [hpB G]) ?_ fun r m' ⟨h1,G,h2,h3⟩=>⟨r,_,rfl,h3,h1,G,h2,rfl⟩
  have hok:=hv.ok
  refine ncall_of Tryd.func19 rfl (by decide) ?_
  by_cases hlt:i+1<ls.length
  · have e0:F.c ((addrOf v).add i) (.string ⟨ls[i].toArray⟩):=RowF.get1 (f0:=fun x:List UInt8=>.string ⟨x.toArray⟩) hv (by omega)
    have hxl:=hx ls[i] (List.getElem_mem _)
    rw [Su.cut_drop hlt]
    generalize ls[i]=x at *
    have cs:=refsplit40_c F x hxl
    cases e:Su.sp 32 x with
    | nil=>exact (Su.sp_ne 32 x e).elim
    | cons a p =>
      rw [e] at cs
      have cs:=cs.mono fun r m h=>show ∃ G u,F.le G∧SlOk u (p.length+1)∧G.c ((addrOf u).add 0) (.string ⟨a.toArray⟩)∧r = .hs u (p.length+1)∧m=[hpB G] from by
        obtain ⟨G,u,h1,h2,h3,h4⟩:=h
        exact ⟨G,u,h1,h2.ok,RowF.get1 (f0:=fun x:List UInt8=>.string ⟨x.toArray⟩) h2 (k:=0) (by simp),h3,h4⟩
      rw [List.head?_cons]
      by_cases ha:a=w
      · subst ha
        rw [if_pos rfl]
        (repeat' (first|(with_reducible first|(refine hK _ _ ?_;clear hK K)|(refine hK _ ?_;clear hK K))|((with_reducible first|refine z25 ?_|refine z26 ?_);intro K hK;(conv=>whnf))|(with_reducible refine z0 ?_)|((first|((with_reducible refine NV.i64 ?s ?_);case s=>omega)|((with_reducible refine NIf.decY ?s ?_);case s=>omega)|(with_reducible first|refine NN.lit ?_|refine NN.cast ?_|refine NN.a2 ?_)|((with_reducible refine NH.mk ?s ?_);case s=>(and_intros<;>omega))|((with_reducible refine NCall.isF 43 ?_);refine NCall.subw [0] _ _ (cs) rfl (by decide) rfl ?_;rintro _ _ ⟨G,u,h1,h2,h3,rfl,rfl⟩;refine ⟨Nat.le_of_ble_eq_true rfl,_,rfl,?_⟩)|(with_reducible refine NLd.of (by with_reducible assumption) ?_))<;>(conv=>whnf))|(with_reducible first|refine z3 ?_|refine z4 ?_|refine z8 ?_|refine z1 ?_|refine z2 ?_)|((with_reducible refine gR ?_);(refine z31 rfl ?_;intro K hK;(conv=>whnf)))|((with_reducible refine gF ?_);(refine z33 rfl ?_;intro K hK;(conv=>whnf)))))
        all_goals first | (exfalso;omega) | exact ⟨rfl,G,h1,MemFits.pre 1 rfl⟩ | exact ⟨congrArg AV.bool (decide_eq_true rfl),G,h1,MemFits.pre 1 rfl⟩
      · rw [if_neg fun h=>ha (Option.some.inj h)]
        (repeat' (first|(with_reducible first|(refine hK _ _ ?_;clear hK K)|(refine hK _ ?_;clear hK K))|((with_reducible first|refine z25 ?_|refine z26 ?_);intro K hK;(conv=>whnf))|(with_reducible refine z0 ?_)|((first|((with_reducible refine NV.i64 ?s ?_);case s=>omega)|((with_reducible refine NIf.decY ?s ?_);case s=>omega)|(with_reducible first|refine NN.lit ?_|refine NN.cast ?_|refine NN.a2 ?_)|((with_reducible refine NH.mk ?s ?_);case s=>(and_intros<;>omega))|((with_reducible refine NCall.isF 43 ?_);refine NCall.subw [0] _ _ (cs) rfl (by decide) rfl ?_;rintro _ _ ⟨G,u,h1,h2,h3,rfl,rfl⟩;refine ⟨Nat.le_of_ble_eq_true rfl,_,rfl,?_⟩)|(with_reducible refine NLd.of (by with_reducible assumption) ?_))<;>(conv=>whnf))|(with_reducible first|refine z3 ?_|refine z4 ?_|refine z8 ?_|refine z1 ?_|refine z2 ?_)|((with_reducible refine gR ?_);(refine z31 rfl ?_;intro K hK;(conv=>whnf)))|((with_reducible refine gF ?_);(refine z33 rfl ?_;intro K hK;(conv=>whnf)))))
        all_goals first | (exfalso;omega) | exact ⟨rfl,G,h1,MemFits.pre 1 rfl⟩ | exact ⟨congrArg AV.bool (decide_eq_false ha),G,h1,MemFits.pre 1 rfl⟩
  · rw [Su.cut_short (by omega)]
    (repeat' (first|(with_reducible first|(refine hK _ _ ?_;clear hK K)|(refine hK _ ?_;clear hK K))|((with_reducible first|refine z25 ?_|refine z26 ?_);intro K hK;(conv=>whnf))|(with_reducible refine z0 ?_)|((first|((with_reducible refine NV.i64 ?s ?_);case s=>omega)|((with_reducible refine NIf.decN ?s ?_);case s=>omega)|((with_reducible refine NH.mk ?s ?_);case s=>(and_intros<;>omega)))<;>(conv=>whnf))|(with_reducible first|refine z3 ?_|refine z4 ?_|refine z8 ?_|refine z1 ?_|refine z2 ?_)|((with_reducible refine gR ?_);(refine z31 rfl ?_;intro K hK;(conv=>whnf)))|((with_reducible refine gF ?_);(refine z33 rfl ?_;intro K hK;(conv=>whnf)))))
    all_goals first | (exfalso;omega) | exact ⟨rfl,F,F.le_refl,MemFits.pre 1 rfl⟩
theorem refints40_c (F:Heap) (s:List UInt8) (hs:s.length≤1000000) (many:Int) (mo:Option Nat) (hmo:(many<0∧mo=none)∨(0≤many∧many≤100∧mo=some many.toNat)) :
    NCall Tryd.prog 18 [.str s,.int .i64 many] [hpB F] fun r m=>∃ G v xs ok,F.le G∧Su.Ints G v xs∧(ok=true→Su.intR s mo=some xs)∧(ok=false→Su.intR s mo=none)∧r = .tup [.hs v xs.length,.bool ok]∧m=[hpB G]:=by
  refine Go.Sx.NCall.know (K:=fun r m'=>∃ G v xs ok,F.le G∧(ok=true→Su.intR s mo=some xs)∧(ok=false→Su.intR s mo=none)∧r.den=(AV.tup [.raw (slOf v),.bool ok]).den∧MemFits m' [hpB G,⟨addrOf v,Su.intAV xs,.row v 3 1 xs.length⟩]) ?_ fun r m' ⟨G,v,xs,ok,h1,h2,h3,h4,h5⟩ ⟨w0,hw0⟩=>?_
  rotate_left
  · have hok:=((h5 w0 hw0).1.row (List.mem_cons_of_mem _ (List.mem_cons_self ..))).1
    have hrow:=rowF_new (F:=G) (sz:=1) (enc:=Su.intV) hok (Su.intAV_den xs) (fun x _=>rfl)
    refine ⟨.tup [.hs v xs.length,.bool ok],_,?_,h5.trans (MemFits.freeze (m:=[])),_,v,xs,ok,h1.trans addF.old,hrow,h2,h3,rfl,rfl⟩
    rw [h4];rfl
  have cs:=refsplit40_c F s hs
  have hsub:=fun x hx=>Su.sp_sub 32 s x hx
  have hsl:=Su.sp_len 32 s
  unfold Su.intR
  cases e:Su.sp 32 s with
  | nil=>exact (Su.sp_ne 32 s e).elim
  | cons a p =>
    rw [e] at cs hsub hsl
    rw [List.length_cons] at hsl
    have cs:=cs.mono fun r m h=>show ∃ G u,F.le G∧Su.strs G u (a::p)∧SlOk u (p.length+1)∧r = .hs u (p.length+1)∧m=[hpB G] from by
      obtain ⟨G,u,h1,h2,h3,h4⟩:=h
      exact ⟨G,u,h1,h2,h2.ok,h3,h4⟩
    have hsub:∀ x∈p,x.length≤1000000:=fun x hx=>Nat.le_trans (hsub x (List.mem_cons_of_mem _ hx)) hs
    rw [List.tail_cons]
    refine ncall_of Tryd.func18 rfl (by decide) ?_
    (repeat' (first|(with_reducible first|(refine hK _ _ ?_;clear hK K)|(refine hK _ ?_;clear hK K))|((with_reducible refine z25 ?_);intro K hK;(conv=>whnf))|(with_reducible refine z0 ?_)|(((with_reducible refine NCall.isF 43 ?_);refine NCall.subw [0] _ _ (cs) rfl (by decide) rfl ?_;rintro _ _ ⟨G,u,hG,hu,hok,rfl,rfl⟩;refine ⟨Nat.le_of_ble_eq_true rfl,_,rfl,?_⟩)<;>(conv=>whnf))|(with_reducible first|refine z3 ?_|refine z4 ?_|refine z5 ?_|refine z1 ?_|refine z2 ?_)|((with_reducible refine gF ?_);(refine z33 rfl ?_;intro K hK;(conv=>whnf)))))
    refine st_auto (α:=Nat × List Int × Value) (fun (k,xs,q)=>k≤p.length∧Su.all Su.num (p.take k)=some xs∧xs.length=k) (fun (k,xs,q)=>[.keep,.keep,.keep,.keep,.set (.raw (.slice none 0 0)),.set (.bool false),.keep,.set (.sl 1 q xs.length),.set (.int .i64 (k+1:Nat)),.drop,.drop,.keep,.keep,.drop,.drop,.drop,.drop,.drop,.drop,.drop,.drop,.drop,.drop,.drop,.drop,.drop,.drop,.drop,.drop,.drop,.drop,.drop,.drop,.keep,.keep,.keep,.keep,.keep,.keep,.keep,.keep,.keep]) (fun (k,xs,q)=>[.keep,.set ⟨addrOf q,Su.intAV xs,.row q 3 1 xs.length⟩]) (fun (k,xs,q)=>p.length - k) (0,[],.slice none 0 0) ⟨Nat.zero_le _,rfl,rfl⟩ ?_ ?_ ?_
    · repeat (first|exact FitsSl.nil|refine FitsSl.any ?_|refine FitsSl.cons (Fit1.int (by first | rfl | omega)) ?_|refine FitsSl.cons (Fit1.bool rfl) ?_|refine FitsSl.cons (Fit1.str rfl) ?_|refine FitsSl.cons (Fit1.same (by intro h;cases h) (by with_reducible rfl)) ?_|refine FitsSl.cons Fit1.nil_sl ?_)
    · exact MemFits.nilRow _ _ _
    (intro ⟨k,xs,q⟩ ⟨hk,hxs,hxl⟩;intro K hK;(conv=>whnf);refine hK _ _ ?_;clear hK K)
    dsimp only at hk hxs hxl ⊢
    by_cases hlt:k<p.length
    · have e0:G.c ((addrOf u).add (k+1)) (.string ⟨p[k].toArray⟩):=RowF.get1 (f0:=fun x:List UInt8=>.string ⟨x.toArray⟩) hu (k:=k+1) (by simp;omega)
      obtain ⟨s1,s2⟩:=Su.all_step p k hlt xs hxs
      have cn:=refnumber40_c p[k] (hsub _ (List.getElem_mem hlt))
      generalize p[k]=y at *
      cases hn:Su.num y with
      | none =>
        rw [hn] at cn
        rw [s1 hn]
        (repeat' (first|(with_reducible first|(refine hK _ _ ?_;clear hK K)|(refine hA ?_;clear hA hB A B)|(refine hK _ ?_;clear hK K))|((with_reducible refine z25 ?_);intro K hK;(conv=>whnf))|(with_reducible refine z0 ?_)|((first|with_reducible refine NIf.not_ ?_|((with_reducible refine NIf.decY ?s ?_);case s=>omega)|((with_reducible refine NIf.no ?s ?_);case s=>rfl)|(with_reducible first|refine NN.cast ?_|refine NN.a2 ?_)|((with_reducible refine NH.mk ?s ?_);case s=>(and_intros<;>omega))|((with_reducible refine NCall.isF 44 ?_);refine NCall.pure (cn) ?_;rintro _ _ ⟨x,rfl,hxx⟩;refine ⟨_,rfl,?_⟩)|(with_reducible refine NLd.of (by with_reducible assumption) ?_))<;>(conv=>whnf))|(with_reducible first|refine z3 ?_|refine z4 ?_|refine z5 ?_|refine z6 ?_|refine z8 ?_)|((with_reducible refine z29 ?_);intro A B hA hB;(conv=>whnf))|(with_reducible first|refine z1 ?_|refine z2 ?_|refine z12 ?_|refine z13 ?_|refine z20 ?_)|((with_reducible refine gR ?_);(refine z31 rfl ?_;intro K hK;(conv=>whnf)))))
        all_goals exact ⟨G,.slice none 0 0,[],false,hG,fun h=>(by cases h),fun _=>rfl,rfl,(MemFits.pre 1 rfl).trans (MemFits.nilRow _ _ _)⟩
      | some n =>
        rw [hn] at cn
        have cn:=cn.mono fun r m h=>show r = .tup [.int .i64 n,.bool true] from by
          obtain ⟨x,h1,h2⟩:=h
          rw [h1,h2 n rfl];rfl
        (repeat' (first|(with_reducible first|(refine hK _ _ ?_;clear hK K)|(refine hA ?_;clear hA hB A B)|(refine hB ?_;clear hA hB A B))|((with_reducible refine z25 ?_);intro K hK;(conv=>whnf))|(with_reducible refine z0 ?_)|((first|((with_reducible refine NV.i64 ?s ?_);case s=>omega)|with_reducible refine NIf.not_ ?_|((with_reducible refine NIf.decY ?s ?_);case s=>omega)|((with_reducible refine NIf.yes ?s ?_);case s=>rfl)|(with_reducible first|refine NN.cast ?_|refine NN.a2 ?_)|((with_reducible refine NH.mk ?s ?_);case s=>(and_intros<;>first|with_reducible rfl|((with_reducible refine gOnes ?_);rfl)|((with_reducible refine gLen ?_);rfl)|omega))|((with_reducible refine NCall.isF 44 ?_);refine NCall.pureE (cn) ?_)|(with_reducible refine NLd.of (by with_reducible assumption) ?_))<;>(conv=>whnf))|(with_reducible first|refine z3 ?_|refine z4 ?_|refine z5 ?_|refine z6 ?_)|((with_reducible refine z29 ?_);intro A B hA hB;(conv=>whnf))|(with_reducible first|refine z1 ?_|refine z2 ?_|refine z9 ?_)|((intro _;skip)<;>(conv=>whnf))))
        all_goals rename_i w2
        all_goals refine st_round (k+1,xs++[n],w2) ⟨hlt,s2 n hn,by rw [List.length_append,hxl];rfl⟩ (by dsimp only;omega) ?_ ?_
        · dsimp only
          rw [List.length_append]
          repeat (first|exact FitsSl.nil|refine FitsSl.any ?_|refine FitsSl.cons (Fit1.int (by first | rfl | omega)) ?_|refine FitsSl.cons (Fit1.bool rfl) ?_|refine FitsSl.cons (Fit1.str rfl) ?_|refine FitsSl.cons (Fit1.same (by intro h;cases h) (by with_reducible rfl)) ?_|refine FitsSl.cons (Fit1.sl rfl) ?_)
        · dsimp only
          rw [List.length_append]
          unfold Su.intAV
          rw [List.map_append]
          exact MemFits.pre 2 rfl
    · obtain rfl:k=p.length:=by omega
      rw [List.take_length] at hxs
      rw [hxs]
      dsimp only
      rcases hmo with ⟨hm,rfl⟩ | ⟨hm1,hm2,rfl⟩
      · (repeat' (first|(with_reducible first|(refine hK _ _ ?_;clear hK K)|(refine hB ?_;clear hA hB A B)|(refine hK _ ?_;clear hK K))|((with_reducible first|refine z25 ?_|refine z26 ?_);intro K hK;(conv=>whnf))|(with_reducible refine z0 ?_)|((first|((with_reducible refine NIf.decY ?s ?_);case s=>assumption)|((with_reducible refine NIf.decN ?s ?_);case s=>omega)|((with_reducible refine NH.mk ?s ?_);case s=>(and_intros<;>omega)))<;>(conv=>whnf))|(with_reducible first|refine z3 ?_|refine z4 ?_|refine z7 ?_|refine z8 ?_)|((with_reducible refine z29 ?_);intro A B hA hB;(conv=>whnf))|(with_reducible first|refine z1 ?_|refine z2 ?_|refine z10 ?_|refine z11 ?_|refine z19 ?_)|((with_reducible refine gR ?_);(refine z31 rfl ?_;intro K hK;(conv=>whnf)))))
        all_goals first | (exfalso;omega) | exact ⟨G,q,xs,true,hG,fun _=>rfl,fun h=>(by cases h),rfl,MemFits.pre 2 rfl⟩
      · by_cases he:xs.length=many.toNat
        · have hd:(Option.all (fun m=>decide (xs.length=m)) (some many.toNat))=true:=decide_eq_true he
          rw [if_pos hd]
          (repeat' (first|(with_reducible first|(refine hK _ _ ?_;clear hK K)|(refine hB ?_;clear hA hB A B)|(refine hK _ ?_;clear hK K))|((with_reducible first|refine z25 ?_|refine z26 ?_);intro K hK;(conv=>whnf))|(with_reducible refine z0 ?_)|((first|((with_reducible refine NIf.decN ?s ?_);case s=>omega)|((with_reducible refine NH.mk ?s ?_);case s=>(and_intros<;>first|with_reducible rfl|omega)))<;>(conv=>whnf))|(with_reducible first|refine z3 ?_|refine z4 ?_|refine z7 ?_|refine z8 ?_)|((with_reducible refine z29 ?_);intro A B hA hB;(conv=>whnf))|(with_reducible first|refine z1 ?_|refine z2 ?_|refine z10 ?_|refine z11 ?_|refine z19 ?_)|((with_reducible refine gR ?_);(refine z31 rfl ?_;intro K hK;(conv=>whnf)))))
          all_goals first | (exfalso;omega) | exact ⟨G,q,xs,true,hG,fun _=>rfl,fun h=>(by cases h),rfl,MemFits.pre 2 rfl⟩ | (refine ⟨G,q,xs,true,hG,fun _=>rfl,fun h=>(by cases h),?_,MemFits.pre 2 rfl⟩;rw [decide_eq_true (by omega)];rfl)
        · have hd:¬ (Option.all (fun m=>decide (xs.length=m)) (some many.toNat))=true:=fun h=>he (of_decide_eq_true h)
          rw [if_neg hd]
          (repeat' (first|(with_reducible first|(refine hK _ _ ?_;clear hK K)|(refine hB ?_;clear hA hB A B)|(refine hK _ ?_;clear hK K))|((with_reducible first|refine z25 ?_|refine z26 ?_);intro K hK;(conv=>whnf))|(with_reducible refine z0 ?_)|((first|((with_reducible refine NIf.decN ?s ?_);case s=>omega)|((with_reducible refine NH.mk ?s ?_);case s=>(and_intros<;>first|with_reducible rfl|omega)))<;>(conv=>whnf))|(with_reducible first|refine z3 ?_|refine z4 ?_|refine z7 ?_|refine z8 ?_)|((with_reducible refine z29 ?_);intro A B hA hB;(conv=>whnf))|(with_reducible first|refine z1 ?_|refine z2 ?_|refine z10 ?_|refine z11 ?_|refine z19 ?_)|((with_reducible refine gR ?_);(refine z31 rfl ?_;intro K hK;(conv=>whnf)))))
          all_goals first | (exfalso;omega) | exact ⟨G,q,xs,false,hG,fun h=>(by cases h),fun _=>rfl,rfl,MemFits.pre 2 rfl⟩ | (refine ⟨G,q,xs,false,hG,fun h=>(by cases h),fun _=>rfl,?_,MemFits.pre 2 rfl⟩;rw [decide_eq_false (by omega)];rfl)
end Go.Proofs.YtgphhbadnjfbjaaDoor
