import Derived.Test.YtgphhbadnjfbjaaDoorSu20
namespace Go.Proofs.YtgphhbadnjfbjaaDoor
open Go.Sx
set_option maxRecDepth 20000
set_option linter.unusedSimpArgs false
set_option linter.unusedVariables false
set_option maxHeartbeats 8000000
set_option linter.unusedVariables false
namespace Su
theorem no_in {c:UInt8} {s:L} {a n:Nat} (h4:∀ j,a≤j→j<a+n→s.getD j 0≠c):c ∉ (s.drop a).take n:=by
  intro h
  obtain ⟨k,hk,e⟩:=List.getElem_of_mem h
  rw [List.length_take,List.length_drop] at hk
  rw [List.getElem_take,List.getElem_drop] at e
  refine h4 (a+k) (by omega) (by omega) ?_
  rw [List.getD_eq_getElem?_getD,List.getElem?_eq_getElem (by omega)]
  exact e
theorem sp_cut {c:UInt8} {s:L} {a i:Nat} (h1:a≤i) (h2:i<s.length) (h3:s.getD i 0=c) (h4:∀ j,a≤j→j<i→s.getD j 0≠c):sp c (s.drop a)=((s.drop a).take (i - a))::sp c (s.drop (i+1)):=by
  have e:s.drop a=(s.drop a).take (i - a)++c::s.drop (i+1):=by
    have h:=List.take_append_drop (i - a) (s.drop a)
    rw [List.drop_drop,show a+(i - a)=i by omega,List.drop_eq_getElem_cons h2] at h
    rw [List.getD_eq_getElem?_getD,List.getElem?_eq_getElem h2] at h3
    have h3:s[i]=c:=h3
    rw [h3] at h
    exact h.symm
  conv=>lhs;rw [e]
  exact sp_app (no_in fun j g1 g2=>h4 j g1 (by omega)) _
theorem sp_last {c:UInt8} {s:L} {a:Nat} (h4:∀ j,a≤j→j<s.length→s.getD j 0≠c):sp c (s.drop a)=[s.drop a]:=by
  refine sp_no fun h=>?_
  have:s.drop a=(s.drop a).take (s.length - a):=by rw [List.take_of_length_le (by rw [List.length_drop];omega)]
  rw [this] at h
  by_cases ha:a≤s.length
  · exact no_in (fun j g1 g2=>h4 j g1 (by omega)) h
  · rw [List.drop_of_length_le (by omega)] at h;simp at h
end Su
theorem refsplit40_c (F:Heap) (s:List UInt8) (hs:s.length≤1000000) :
    NCall Tryd.prog 43 [.str s] [hpB F] fun r m=>∃ G v,F.le G∧Su.strs G v (Su.sp 32 s)∧r = .hs v (Su.sp 32 s).length∧m=[hpB G]:=by
  refine (NCall.grow (F:=F) (t:=9) strV strAV (fun l=>l=Su.sp 32 s) ?_ strAV_den fun _=>rfl).mono fun r m ⟨G,v,l,h1,h2,h3,h4,h5⟩=>by
    subst h1
    exact ⟨G,v,h2,h5,h3,h4⟩
  refine ncall_of Tryd.func43 rfl (by decide) ?_
  (repeat' (first|(with_reducible first|(refine hK _ _ ?_;clear hK K)|(refine hK _ ?_;clear hK K))|((with_reducible refine z25 ?_);intro K hK;(conv=>whnf))|(with_reducible first|refine z0 ?_|refine z3 ?_|refine z4 ?_|refine z5 ?_|refine z1 ?_|refine z2 ?_)|((with_reducible refine gF ?_);(refine z33 rfl ?_;intro K hK;(conv=>whnf)))))
  refine st_auto (α:=Nat × Nat × List (List UInt8) × Value) (fun (i,a,xs,u)=>i≤s.length+1∧a≤i∧xs.length≤i∧(i≤s.length→Su.sp 32 s=xs++Su.sp 32 (s.drop a))∧(i=s.length+1→Su.sp 32 s=xs)∧∀ j,a≤j→j<i→s.getD j 0≠32) (fun (i,a,xs,u)=>[.keep,.keep,.set (.raw (.slice none 0 0)),.set (.sl 1 u xs.length),.set (.int .i64 a),.set (.int .i64 i),.drop,.drop,.drop,.drop,.drop,.drop,.drop,.drop,.drop,.drop,.drop,.drop,.drop,.drop,.drop,.drop,.drop,.drop,.drop,.drop,.drop,.drop,.drop,.drop,.drop,.keep]) (fun (i,a,xs,u)=>[.keep,.set ⟨addrOf u,strAV xs,.row u 9 1 xs.length⟩]) (fun (i,a,xs,u)=>s.length+1 - i) (0,0,[],.slice none 0 0) ⟨Nat.zero_le _,Nat.le_refl _,Nat.le_refl _,fun _=>rfl,fun h=>by omega,fun j h1 h2=>by omega⟩ ?_ ?_ ?_
  · repeat (first|exact FitsSl.nil|refine FitsSl.any ?_|refine FitsSl.cons (Fit1.int (by first | rfl | omega)) ?_|refine FitsSl.cons (Fit1.str rfl) ?_|refine FitsSl.cons (Fit1.same (by intro h;cases h) (by with_reducible rfl)) ?_|refine FitsSl.cons Fit1.nil_sl ?_)
  · exact MemFits.nilRow _ _ _
  (intro ⟨i,a,xs,u⟩ ⟨hi,ha,hxl,hsp,hend,hno⟩;intro K hK;(conv=>whnf);refine hK _ _ ?_;clear hK K)
  dsimp only at hi ha hxl hsp hend hno ⊢
  by_cases hlt:i<s.length
  · have hi':i≤s.length:=by omega
    by_cases hb:(s.getD i 0).toNat=32
    · (repeat' (first|(with_reducible first|(refine hK _ _ ?_;clear hK K)|(refine hA ?_;clear hA hB A B))|((with_reducible first|refine z25 ?_|refine z26 ?_);intro K hK;(conv=>whnf))|(with_reducible refine z0 ?_)|((first|((with_reducible refine NV.i64 ?s ?_);case s=>omega)|((with_reducible refine NIf.decY ?s ?_);case s=>omega)|((with_reducible refine NIf.decN ?s ?_);case s=>omega)|(with_reducible refine NN.cast ?_)|((with_reducible refine NH.mk ?s ?_);case s=>(and_intros<;>first|with_reducible rfl|((with_reducible refine gOnes ?_);rfl)|((with_reducible refine gLen ?_);rfl)|omega))|(with_reducible refine NS.keep ?_))<;>(conv=>whnf))|(with_reducible first|refine z3 ?_|refine z4 ?_|refine z5 ?_|refine z6 ?_)|((with_reducible refine z29 ?_);intro A B hA hB;(conv=>whnf))|(with_reducible first|refine z1 ?_|refine z2 ?_|refine z9 ?_)|((intro _;skip)<;>(conv=>whnf))))
      all_goals try (exfalso;omega)
      all_goals rename_i v2
      have h32:s.getD i 0=32:=UInt8.toNat_inj.1 (by rw [hb];rfl)
      have hc:=Su.sp_cut ha hlt h32 hno
      all_goals refine st_round (i+1,i+1,xs++[(s.drop a).take (i - a)],v2) ⟨by omega,Nat.le_refl _,by dsimp only;rw [List.length_append];show _+1≤_;omega,fun _=>by dsimp only;rw [hsp hi',hc,List.append_assoc];rfl,fun h=>by dsimp only at h;omega,fun j h1 h2=>by dsimp only at h1 h2;omega⟩ (by dsimp only;omega) ?_ ?_
      · dsimp only
        rw [List.length_append]
        repeat (first|exact FitsSl.nil|refine FitsSl.any ?_|refine FitsSl.cons (Fit1.int (by first | rfl | omega)) ?_|refine FitsSl.cons (Fit1.str rfl) ?_|refine FitsSl.cons (Fit1.same (by intro h;cases h) (by with_reducible rfl)) ?_|refine FitsSl.cons (Fit1.sl rfl) ?_)
      · dsimp only
        rw [List.length_append]
        unfold strAV
        rw [List.map_append]
        exact MemFits.pre 2 rfl
    · have h32:s.getD i 0≠32:=fun e=>hb (by rw [e];rfl)
      (repeat' (first|(with_reducible first|(refine hK _ _ ?_;clear hK K)|(refine hA ?_;clear hA hB A B)|(refine hB ?_;clear hA hB A B))|((with_reducible first|refine z25 ?_|refine z26 ?_);intro K hK;(conv=>whnf))|(with_reducible refine z0 ?_)|((first|((with_reducible refine NV.i64 ?s ?_);case s=>omega)|((with_reducible refine NIf.decY ?s ?_);case s=>omega)|((with_reducible refine NIf.decN ?s ?_);case s=>omega)|(with_reducible refine NN.cast ?_)|((with_reducible refine NH.mk ?s ?_);case s=>(and_intros<;>omega)))<;>(conv=>whnf))|(with_reducible first|refine z3 ?_|refine z4 ?_|refine z5 ?_|refine z6 ?_)|((with_reducible refine z29 ?_);intro A B hA hB;(conv=>whnf))|(with_reducible first|refine z1 ?_|refine z2 ?_|refine z9 ?_)))
      all_goals try (exfalso;omega)
      all_goals refine st_round (i+1,a,xs,u) ⟨by omega,by dsimp only;omega,by dsimp only;omega,fun _=>hsp hi',fun h=>by dsimp only at h;omega,fun j h1 h2=>by
        dsimp only at h1 h2
        by_cases e:j=i
        · rw [e];exact h32
        · exact hno j h1 (by omega)⟩ (by dsimp only;omega) ?_ (MemFits.eq rfl)
      all_goals repeat (first|exact FitsSl.nil|refine FitsSl.any ?_|refine FitsSl.cons (Fit1.int (by first | rfl | omega)) ?_|refine FitsSl.cons (Fit1.str rfl) ?_|refine FitsSl.cons (Fit1.same (by intro h;cases h) (by with_reducible rfl)) ?_)
  · by_cases he:i=s.length
    · subst he
      have hc:=Su.sp_last hno
      (repeat' (first|(with_reducible first|(refine hK _ _ ?_;clear hK K)|(refine hA ?_;clear hA hB A B))|((with_reducible first|refine z25 ?_|refine z26 ?_);intro K hK;(conv=>whnf))|(with_reducible refine z0 ?_)|((first|((with_reducible refine NV.i64 ?s ?_);case s=>omega)|((with_reducible refine NIf.decY ?s ?_);case s=>first|with_reducible rfl|omega)|((with_reducible refine NIf.yes ?s ?_);case s=>rfl)|(with_reducible refine NN.cast ?_)|((with_reducible refine NH.mk ?s ?_);case s=>(and_intros<;>first|with_reducible rfl|((with_reducible refine gOnes ?_);rfl)|((with_reducible refine gLen ?_);rfl)|omega))|(with_reducible refine NS.keep ?_))<;>(conv=>whnf))|(with_reducible first|refine z3 ?_|refine z4 ?_|refine z5 ?_|refine z6 ?_)|((with_reducible refine z29 ?_);intro A B hA hB;(conv=>whnf))|(with_reducible first|refine z1 ?_|refine z2 ?_|refine z9 ?_)|((intro _;skip)<;>(conv=>whnf))))
      all_goals try (exfalso;omega)
      all_goals rename_i v2
      have hta:(s.drop a).take (s.length - a)=s.drop a:=List.take_of_length_le (by rw [List.length_drop];omega)
      all_goals refine st_round (s.length+1,s.length+1,xs++[(s.drop a).take (s.length - a)],v2) ⟨Nat.le_refl _,Nat.le_refl _,by dsimp only;rw [List.length_append];show _+1≤_;omega,fun h=>by dsimp only at h;omega,fun _=>by dsimp only;rw [hsp (Nat.le_refl _),hc,hta],fun j h1 h2=>by dsimp only at h1 h2;omega⟩ (by dsimp only;omega) ?_ ?_
      · dsimp only
        rw [List.length_append]
        repeat (first|exact FitsSl.nil|refine FitsSl.any ?_|refine FitsSl.cons (Fit1.int (by first | rfl | omega)) ?_|refine FitsSl.cons (Fit1.str rfl) ?_|refine FitsSl.cons (Fit1.same (by intro h;cases h) (by with_reducible rfl)) ?_|refine FitsSl.cons (Fit1.sl rfl) ?_)
      · dsimp only
        rw [List.length_append]
        unfold strAV
        rw [List.map_append]
        exact MemFits.pre 2 rfl
    · have he2:i=s.length+1:=by omega
      have hq:=hend he2
      (repeat' (first|(with_reducible first|(refine hK _ _ ?_;clear hK K)|(refine hB ?_;clear hA hB A B)|(refine hK _ ?_;clear hK K))|((with_reducible refine z25 ?_);intro K hK;(conv=>whnf))|(with_reducible refine z0 ?_)|(((with_reducible refine NIf.decN ?s ?_);case s=>omega)<;>(conv=>whnf))|(with_reducible first|refine z3 ?_|refine z4 ?_|refine z7 ?_|refine z8 ?_)|((with_reducible refine z29 ?_);intro A B hA hB;(conv=>whnf))|(with_reducible first|refine z1 ?_|refine z2 ?_|refine z10 ?_|refine z11 ?_|refine z19 ?_)|((with_reducible refine gR ?_);(refine z31 rfl ?_;intro K hK;(conv=>whnf)))))
      all_goals try (exfalso;omega)
      all_goals exact ⟨u,xs,hq.symm,rfl,MemFits.pre 2 rfl⟩
theorem reflines40_c (F:Heap) (s:List UInt8) (hs:s.length≤1000000) :
    NCall Tryd.prog 17 [.str s] [hpB F] fun r m=>∃ G v,F.le G∧Su.strs G v (Su.sp 10 s)∧r = .hs v (Su.sp 10 s).length∧m=[hpB G]:=by
  refine (NCall.grow (F:=F) (t:=9) strV strAV (fun l=>l=Su.sp 10 s) ?_ strAV_den fun _=>rfl).mono fun r m ⟨G,v,l,h1,h2,h3,h4,h5⟩=>by
    subst h1
    exact ⟨G,v,h2,h5,h3,h4⟩
  refine ncall_of Tryd.func17 rfl (by decide) ?_
  (repeat' (first|(with_reducible first|(refine hK _ _ ?_;clear hK K)|(refine hK _ ?_;clear hK K))|((with_reducible refine z25 ?_);intro K hK;(conv=>whnf))|(with_reducible first|refine z0 ?_|refine z3 ?_|refine z4 ?_|refine z5 ?_|refine z1 ?_|refine z2 ?_)|((with_reducible refine gF ?_);(refine z33 rfl ?_;intro K hK;(conv=>whnf)))))
  refine st_auto (α:=Nat × Nat × List (List UInt8) × Value) (fun (i,a,xs,u)=>i≤s.length∧a≤i∧xs.length≤i∧Su.sp 10 s=xs++Su.sp 10 (s.drop a)∧∀ j,a≤j→j<i→s.getD j 0≠10) (fun (i,a,xs,u)=>[.keep,.keep,.set (.raw (.slice none 0 0)),.set (.sl 1 u xs.length),.set (.int .i64 a),.set (.int .i64 i),.drop,.drop,.drop,.drop,.drop,.drop,.drop,.drop,.drop,.drop,.drop,.drop,.drop,.drop,.drop,.drop,.drop,.drop,.drop,.keep,.keep,.keep,.keep,.keep,.keep]) (fun (i,a,xs,u)=>[.keep,.set ⟨addrOf u,strAV xs,.row u 9 1 xs.length⟩]) (fun (i,a,xs,u)=>s.length - i) (0,0,[],.slice none 0 0) ⟨Nat.zero_le _,Nat.le_refl _,Nat.le_refl _,rfl,fun j h1 h2=>by omega⟩ ?_ ?_ ?_
  · repeat (first|exact FitsSl.nil|refine FitsSl.any ?_|refine FitsSl.cons (Fit1.int (by first | rfl | omega)) ?_|refine FitsSl.cons (Fit1.str rfl) ?_|refine FitsSl.cons (Fit1.same (by intro h;cases h) (by with_reducible rfl)) ?_|refine FitsSl.cons Fit1.nil_sl ?_)
  · exact MemFits.nilRow _ _ _
  (intro ⟨i,a,xs,u⟩ ⟨hi,ha,hxl,hsp,hno⟩;intro K hK;(conv=>whnf);refine hK _ _ ?_;clear hK K)
  dsimp only at hi ha hxl hsp hno ⊢
  by_cases hlt:i<s.length
  · by_cases hb:(s.getD i 0).toNat=10
    · (repeat' (first|(with_reducible first|(refine hK _ _ ?_;clear hK K)|(refine hA ?_;clear hA hB A B))|((with_reducible refine z25 ?_);intro K hK;(conv=>whnf))|(with_reducible refine z0 ?_)|((first|((with_reducible refine NV.i64 ?s ?_);case s=>omega)|((with_reducible refine NIf.decY ?s ?_);case s=>omega)|(with_reducible refine NN.cast ?_)|((with_reducible refine NH.mk ?s ?_);case s=>(and_intros<;>first|with_reducible rfl|((with_reducible refine gOnes ?_);rfl)|((with_reducible refine gLen ?_);rfl)|omega))|(with_reducible refine NS.keep ?_))<;>(conv=>whnf))|(with_reducible first|refine z3 ?_|refine z4 ?_|refine z5 ?_|refine z6 ?_)|((with_reducible refine z29 ?_);intro A B hA hB;(conv=>whnf))|(with_reducible first|refine z1 ?_|refine z2 ?_|refine z9 ?_)|((intro _;skip)<;>(conv=>whnf))))
      all_goals try (exfalso;omega)
      all_goals rename_i v2
      have h32:s.getD i 0=10:=UInt8.toNat_inj.1 (by rw [hb];rfl)
      have hc:=Su.sp_cut ha hlt h32 hno
      all_goals refine st_round (i+1,i+1,xs++[(s.drop a).take (i - a)],v2) ⟨hlt,Nat.le_refl _,by dsimp only;rw [List.length_append];show _+1≤_;omega,by dsimp only;rw [hsp,hc,List.append_assoc];rfl,fun j h1 h2=>by dsimp only at h1 h2;omega⟩ (by dsimp only;omega) ?_ ?_
      · dsimp only
        rw [List.length_append]
        repeat (first|exact FitsSl.nil|refine FitsSl.any ?_|refine FitsSl.cons (Fit1.int (by first | rfl | omega)) ?_|refine FitsSl.cons (Fit1.str rfl) ?_|refine FitsSl.cons (Fit1.same (by intro h;cases h) (by with_reducible rfl)) ?_|refine FitsSl.cons (Fit1.sl rfl) ?_)
      · dsimp only
        rw [List.length_append]
        unfold strAV
        rw [List.map_append]
        exact MemFits.pre 2 rfl
    · have h32:s.getD i 0≠10:=fun e=>hb (by rw [e];rfl)
      (repeat' (first|(with_reducible first|(refine hK _ _ ?_;clear hK K)|(refine hA ?_;clear hA hB A B)|(refine hB ?_;clear hA hB A B))|((with_reducible refine z25 ?_);intro K hK;(conv=>whnf))|(with_reducible refine z0 ?_)|((first|((with_reducible refine NV.i64 ?s ?_);case s=>omega)|((with_reducible refine NIf.decY ?s ?_);case s=>omega)|((with_reducible refine NIf.decN ?s ?_);case s=>omega)|(with_reducible refine NN.cast ?_)|((with_reducible refine NH.mk ?s ?_);case s=>(and_intros<;>omega)))<;>(conv=>whnf))|(with_reducible first|refine z3 ?_|refine z4 ?_|refine z5 ?_|refine z6 ?_)|((with_reducible refine z29 ?_);intro A B hA hB;(conv=>whnf))|(with_reducible first|refine z1 ?_|refine z2 ?_|refine z9 ?_)))
      all_goals try (exfalso;omega)
      all_goals refine st_round (i+1,a,xs,u) ⟨hlt,by dsimp only;omega,by dsimp only;omega,hsp,fun j h1 h2=>by
        dsimp only at h1 h2
        by_cases e:j=i
        · rw [e];exact h32
        · exact hno j h1 (by omega)⟩ (by dsimp only;omega) ?_ (MemFits.eq rfl)
      all_goals repeat (first|exact FitsSl.nil|refine FitsSl.any ?_|refine FitsSl.cons (Fit1.int (by first | rfl | omega)) ?_|refine FitsSl.cons (Fit1.str rfl) ?_|refine FitsSl.cons (Fit1.same (by intro h;cases h) (by with_reducible rfl)) ?_)
  · obtain rfl:i=s.length:=by omega
    have hc:=Su.sp_last hno
    rw [hc] at hsp
    have hta:(s.drop a).take (s.length - a)=s.drop a:=List.take_of_length_le (by rw [List.length_drop];omega)
    (repeat' (first|(with_reducible first|(refine hK _ _ ?_;clear hK K)|(refine hB ?_;clear hA hB A B)|(refine hK _ ?_;clear hK K))|((with_reducible refine z25 ?_);intro K hK;(conv=>whnf))|(with_reducible refine z0 ?_)|((first|((with_reducible refine NIf.decN ?s ?_);case s=>omega)|(with_reducible refine NN.cast ?_)|((with_reducible refine NH.mk ?s ?_);case s=>(and_intros<;>first|with_reducible rfl|((with_reducible refine gOnes ?_);rfl)|((with_reducible refine gLen ?_);rfl)|omega))|(with_reducible refine NS.keep ?_))<;>(conv=>whnf))|(with_reducible first|refine z3 ?_|refine z4 ?_|refine z7 ?_|refine z8 ?_)|((with_reducible refine z29 ?_);intro A B hA hB;(conv=>whnf))|(with_reducible first|refine z1 ?_|refine z2 ?_|refine z10 ?_|refine z11 ?_|refine z19 ?_)|((with_reducible refine gR ?_);(refine z31 rfl ?_;intro K hK;(conv=>whnf)))|((intro _;skip)<;>(conv=>whnf))))
    all_goals try (exfalso;omega)
    all_goals rename_i v2
    all_goals refine ⟨v2,xs++[s.drop a],hsp.symm,rfl,?_⟩
    all_goals rw [List.length_append]
    all_goals unfold strAV
    all_goals rw [List.map_append]
    all_goals first | exact MemFits.pre 2 rfl | (rw [hta];exact MemFits.pre 2 rfl)
end Go.Proofs.YtgphhbadnjfbjaaDoor
