import Derived.Test.YtgphhbadnjfbjaaDoorSu3
namespace Go.Proofs.YtgphhbadnjfbjaaDoor
open Go.Sx
set_option maxRecDepth 20000
set_option linter.unusedSimpArgs false
set_option linter.unusedVariables false
set_option maxHeartbeats 4000000
set_option linter.unusedVariables false
theorem toerr_c (F:Heap) (hE:ErrF F) (s:List UInt8) (hs:s.length≤100000000) (k:Int) (hk:k=2∨k=1):NCall Tryd.prog 59 [.str [80,97,114,115,101,85,105,110,116],.str s,.int .i64 16,.int .i64 64,.ifc 107 (.int .i64 k)] [hpB F] fun r m=>(∃ t p,r = .ifc t (.raw p))∧m=[hpB F]:=by
  obtain ⟨⟨u1,v1,h1⟩,u2,v2,h2⟩:=hE
  refine ncall_kept (Go.Sx.enters_of Tryd.func59 rfl (by decide)) fun w hw=>?_
  have hc:∀ a u,F.c a u→a.block<w.heap.size∧w.cell? a=some u:=(hw.holds (hpB F) (by simp)).2.1
  have hsz:(⟨s.toArray⟩:ByteArray).size=s.length:=by simp [ByteArray.size]
  rcases hk with rfl | rfl
  · refine (Tryd.strconv_toError_syntax ⟨#[80,97,114,115,101,85,105,110,116]⟩ ⟨s.toArray⟩ 16 64 _ w (by rw [hsz];omega) (hc _ _ h1).2 (.inr ⟨_,_,rfl⟩)).mono fun e w' ⟨N,he,_,_,hb⟩=>?_
    exact ⟨.ifc _ (.raw (.pointer (some ⟨N,0,none⟩))),⟨_,_,rfl⟩,by rw [he];rfl,hb.os,hb.tape,hb.output,hb.size,hb.block⟩
  · refine (Tryd.strconv_toError_range ⟨#[80,97,114,115,101,85,105,110,116]⟩ ⟨s.toArray⟩ 16 64 _ w (by rw [hsz];omega) (hc _ _ h2).2 (.inr ⟨_,_,rfl⟩)).mono fun e w' ⟨N,he,_,_,hb⟩=>?_
    exact ⟨.ifc _ (.raw (.pointer (some ⟨N,0,none⟩))),⟨_,_,rfl⟩,by rw [he];rfl,hb.os,hb.tape,hb.output,hb.size,hb.block⟩
theorem uint40_c (F:Heap) (hE:ErrF F) (s:List UInt8) (hs:s.length≤100000000):NCall Tryd.prog 51 [.str s,.int .i64 16,.int .i64 64] [hpB F] fun r m=>∃ v x,(v<18446744073709551616∧(∀ n,n<18446744073709551616→s=Su.bits n→v=n∧x = .raw .nilIface)∧(x = .raw .nilIface∨∃ t p,x = .ifc t (.raw p)))∧r = .tup [.int .u64 (v:Nat),x]∧m=[hpB F]:=by
  refine NCall.fits (K:=fun r m=>∃ v x,(v<18446744073709551616∧(∀ n,n<18446744073709551616→s=Su.bits n→v=n∧x = .raw .nilIface)∧(x = .raw .nilIface∨∃ t p,x = .ifc t (.raw p)))∧r = .tup [.int .u64 (v:Nat),x]∧MemFits m [hpB F]) ?_ fun r m' ⟨v,x,h1,h2,h3⟩=>⟨r,_,rfl,h3,v,x,h1,h2,rfl⟩
  have ct:=fun k hk=>toerr_c F hE s hs k hk
  have cp:=puint_c s hs
  refine NCallX.never ?_
  refine ncallx_of Tryd.func51 rfl (by decide) ?_
  by_cases hb:∃ n,n<18446744073709551616∧s=Su.bits n
  · obtain ⟨n,hn,e⟩:=hb
    have cp:NCall Tryd.prog 58 [.str s,.int .i64 16,.int .i64 64] [] fun r m=>r = .tup [.int .u64 (n:Nat),.raw .nilIface]∧m=[]:=cp.fits fun r m ⟨v,x,h1,h2,h3,h4⟩=>⟨r,[],rfl,MemFits.pre 0 rfl,by
      obtain ⟨rfl,rfl⟩:=h4 n hn e
      exact ⟨h2,rfl⟩⟩
    (repeat' (first|(with_reducible first|(refine hK _ _ ?_;clear hP hK Kp K)|(refine hB ?_;clear hA hB A B)|(refine hK _ ?_;clear hK K))|((with_reducible refine st_opX ?_);intro K Kp hK hP;(conv=>whnf))|(with_reducible refine st_nilX ?_)|((first|((with_reducible refine NIf.no ?s ?_);case s=>rfl)|((with_reducible refine gCX ?_);(refine NCallX.of ?_;((with_reducible refine NCall.isF 58 ?_);refine NCall.subE [] (cp) rfl (by decide) rfl rfl ?_))))<;>(conv=>whnf))|(with_reducible first|refine st_seqX ?_|refine st_regionX ?_|refine st_skipX ?_|refine st_retX ?_)|((with_reducible refine st_condX ?_);intro A B hA hB;(conv=>whnf))|(with_reducible refine st_thenX ?_)|((with_reducible refine gRX ?_);(refine st_retX_ret rfl ?_;intro K hK;(conv=>whnf)))|((with_reducible refine gFX ?_);(refine st_funcX rfl ?_;intro K hK;(conv=>whnf)))))
    all_goals exact ⟨n,_,⟨hn,fun n' hn' h=>⟨by rw [e] at h;have:=congrArg Su.hval h;unfold Su.bits at this;rw [Su.hval_bits 16 n hn,Su.hval_bits 16 n' hn'] at this;exact this,rfl⟩,.inl rfl⟩,rfl,MemFits.pre 1 rfl⟩
  · have hno:∀ n,n<18446744073709551616→s=Su.bits n→False:=fun n hn h=>hb ⟨n,hn,h⟩
    have cp:NCall Tryd.prog 58 [.str s,.int .i64 16,.int .i64 64] [] fun r m=>∃ v x,(v<18446744073709551616∧(x = .raw .nilIface∨x = .ifc 107 (.int .i64 2)∨x = .ifc 107 (.int .i64 1)))∧r = .tup [.int .u64 (v:Nat),x]∧m=[]:=cp.fits fun r m ⟨v,x,h1,h2,h3,h4⟩=>⟨r,[],rfl,MemFits.pre 0 rfl,v,x,⟨h1,h3⟩,h2,rfl⟩
    (repeat' (first|(with_reducible first|(refine hK _ _ ?_;clear hP hK Kp K)|(refine hK _ ?_;clear hK K))|((with_reducible refine st_opX ?_);intro K Kp hK hP;(conv=>whnf))|(with_reducible refine st_nilX ?_)|(((with_reducible refine gCX ?_);(refine NCallX.of ?_;((with_reducible refine NCall.isF 58 ?_);refine NCall.subw [] _ _ (cp) rfl (by decide) rfl ?_;rintro _ _ ⟨v,x,⟨hv,hx⟩,rfl,rfl⟩;refine ⟨Nat.le_of_ble_eq_true rfl,_,rfl,?_⟩)))<;>(conv=>whnf))|(with_reducible first|refine st_seqX ?_|refine st_regionX ?_|refine st_thenX ?_)|((with_reducible refine gFX ?_);(refine st_funcX rfl ?_;intro K hK;(conv=>whnf)))))
    rcases hx with rfl | rfl | rfl
    all_goals (conv=>whnf)
    · (repeat' (first|(with_reducible first|(refine hK _ _ ?_;clear hP hK Kp K)|(refine hB ?_;clear hA hB A B)|(refine hK _ ?_;clear hK K))|((with_reducible refine st_opX ?_);intro K Kp hK hP;(conv=>whnf))|(with_reducible refine st_nilX ?_)|(((with_reducible refine NIf.no ?s ?_);case s=>rfl)<;>(conv=>whnf))|(with_reducible first|refine st_seqX ?_|refine st_regionX ?_|refine st_skipX ?_|refine st_retX ?_)|((with_reducible refine st_condX ?_);intro A B hA hB;(conv=>whnf))|(with_reducible refine st_thenX ?_)|((with_reducible refine gRX ?_);(refine st_retX_ret rfl ?_;intro K hK;(conv=>whnf)))))
      all_goals exact ⟨v,_,⟨hv,fun n hn h=>(hno n hn h).elim,.inl rfl⟩,rfl,MemFits.pre 1 rfl⟩
    all_goals (repeat' (first|(with_reducible first|(refine hK _ _ ?_;clear hP hK Kp K)|(refine hA ?_;clear hA hB A B)|(refine hK _ ?_;clear hK K))|((with_reducible refine st_opX ?_);intro K Kp hK hP;(conv=>whnf))|(with_reducible refine st_nilX ?_)|((first|((with_reducible refine NIf.yes ?s ?_);case s=>rfl)|((with_reducible refine gCX ?_);(refine NCallX.of ?_;((with_reducible refine NCall.isF 59 ?_);refine NCall.subw [0] _ _ (ct _ (by decide)) rfl (by decide) rfl ?_;rintro _ _ ⟨⟨t,p,rfl⟩,rfl⟩;refine ⟨Nat.le_of_ble_eq_true rfl,_,rfl,?_⟩))))<;>(conv=>whnf))|(with_reducible first|refine st_seqX ?_|refine st_regionX ?_|refine st_retX ?_)|((with_reducible refine st_condX ?_);intro A B hA hB;(conv=>whnf))|(with_reducible first|refine st_thenX ?_|refine st_thenX_ret ?_)|((with_reducible refine gRX ?_);(refine st_retX_ret rfl ?_;intro K hK;(conv=>whnf)))))
    all_goals exact ⟨v,_,⟨hv,fun n hn h=>(hno n hn h).elim,.inr ⟨t,p,rfl⟩⟩,rfl,MemFits.pre 1 rfl⟩
theorem bits40_m (n:Nat) (hn:n<18446744073709551616):NCall Tryd.prog 24 [.int .u64 n] [] fun r m=>r = .str (Su.bits n)∧m=[] :=
  (bits40_c n hn).fits fun r m h=>⟨r,[],rfl,MemFits.pre 0 rfl,h,rfl⟩
namespace Su
def hexV (x:Nat):List Value:=[.int .u64 x]
def hexAV (l:List Nat):List AV:=l.map fun (n:Nat)=>.int .u64 (n:Int)
theorem hexAV_den (l:List Nat):denL (hexAV l)=l.flatMap hexV:=by
  induction l with
  | nil=>rfl
  | cons c l ih=>simp only [hexAV,List.map_cons,denL,AV.den,List.flatMap_cons,hexV] at *;rw [ih];rfl
abbrev Hexs (F:Heap) (v:Value) (l:List Nat):Prop:=RowF F 1 (fun x us=>us=hexV x) v l
theorem cut_len {w:List UInt8} {tx:List UInt8} {p ls:List (List UInt8)} (hc2:cut w (sp 10 tx)=some (p,ls)):p.length≤tx.length+1∧∀ x∈p,x.length≤tx.length:=by
  unfold cut at hc2
  split at hc2
  · rename_i x y r e
    have hxm:x∈sp 10 tx:=by rw [e];exact List.mem_cons_self ..
    have h1:=sp_sub 10 tx x hxm
    have h2:=sp_len 32 x
    split at hc2
    · cases hc2
      refine ⟨by rw [List.length_tail];omega,fun z hz=>?_⟩
      have:=sp_sub 32 x z (List.mem_of_mem_tail hz)
      omega
    · cases hc2
  · cases hc2
end Su
def Su.GotSets (F:Heap) (b:Nat) (tx:List UInt8) (no:Nat) (q:Su.I (List Nat)) (r:AV) (m:List Blk):Prop :=
  (q = .no∧∃ G,F.le G∧r = .tup [.hs (.slice none 0 0) 0,.bool false]∧m=[hpB G,Su.rB b tx no]) ∨
  (∃ xs t2 G v,q = .ok xs (Su.sp 10 t2)∧t2.length<tx.length∧F.le G∧Su.Hexs G v xs∧r = .tup [.hs v xs.length,.bool true]∧m=[hpB G,Su.rB b t2 (no+1)])
theorem weights40_c (F:Heap) (hE:ErrF F) (b:Nat) (tx:List UInt8) (hs:tx.length≤1000000) (no:Nat) (hno:no≤100000000) :
    NCallX Tryd.prog 41 [.ptr 1 ⟨b,0,none⟩ 0] [hpB F,Su.rB b tx no] (Su.GotSets F b tx no (Su.sets (Su.sp 10 tx)))
      fun ch m=>Su.sets (Su.sp 10 tx) = .bad∧ch=Su.wrong no∧∃ G t2,F.le G∧m=[hpB G,Su.rB b t2 no]:=by
  refine NCallX.know (K:=fun r m=>(Su.sets (Su.sp 10 tx) = .no∧∃ G,F.le G∧r.den=(AV.tup [.hs (.slice none 0 0) 0,.bool false]).den∧MemFits m [hpB G,Su.rB b tx no]) ∨
    (∃ xs t2 G v,Su.sets (Su.sp 10 tx) = .ok xs (Su.sp 10 t2)∧t2.length<tx.length∧F.le G∧r.den=(AV.tup [.raw (slOf v),.bool true]).den∧MemFits m [hpB G,⟨addrOf v,Su.hexAV xs,.row v 43 1 xs.length⟩,Su.rB b t2 (no+1)]))
    (Kp:=fun ch m=>Su.sets (Su.sp 10 tx) = .bad∧ch=Su.wrong no∧∃ G t2,F.le G∧MemFits m [hpB G,Su.rB b t2 no]) ?_ (fun r m' hq ⟨w0,hw0⟩=>?_) (fun ch m' hq=>?_)
  rotate_left
  · rcases hq with ⟨h1,G,h2,h3,h4⟩ | ⟨xs,t2,G,v,h1,h2,h3,h4,h5⟩
    · exact ⟨_,_,h3.symm,h4,.inl ⟨h1,G,h2,rfl,rfl⟩⟩
    · have hok:=((h5 w0 hw0).1.row (List.mem_cons_of_mem _ (List.mem_cons_self ..))).1
      have hrow:=rowF_new (F:=G) (sz:=1) (enc:=Su.hexV) hok (Su.hexAV_den xs) (fun x _=>rfl)
      refine ⟨.tup [.hs v xs.length,.bool true],_,?_,h5.trans (MemFits.freeze (m:=[Su.rB b t2 (no+1)])),.inr ⟨xs,t2,_,v,h1,h2,h3.trans addF.old,hrow,rfl,rfl⟩⟩
      rw [h4];rfl
  · obtain ⟨h1,h2,G,t2,h3,h4⟩:=hq
    exact ⟨_,h4,h1,h2,G,t2,h3,rfl⟩
  have cl:=line40_c F b tx (by omega) no Su.wWeights
  have hspec:Su.sets (Su.sp 10 tx)=match Su.cut Su.wWeights (Su.sp 10 tx) with
    | none=>.no
    | some (p,r)=>match Su.all Su.hex p with
      | none=>.bad
      | some xs=>.ok xs r:=by
    unfold Su.sets
    cases Su.cut Su.wWeights (Su.sp 10 tx) with
    | none=>rfl
    | some pr=>obtain ⟨p,r⟩:=pr;dsimp only;cases Su.all Su.hex p<;>rfl
  generalize Su.sets (Su.sp 10 tx)=res at *
  unfold Su.Line at cl
  cases hc:Su.cut Su.wWeights (Su.sp 10 tx) with
  | none =>
    rw [hc] at cl hspec
    have cl:=cl.mono fun r m h=>show ∃ G,F.le G∧r = .tup [.hs (.slice none 0 0) 0,.bool false]∧m=[hpB G,Su.rB b tx no] from by
      rcases h with ⟨_,h⟩ | ⟨_,_,_,_,h,_⟩
      · exact h
      · cases h
    unfold Su.rB at cl ⊢
    unfold Su.wWeights at cl
    refine ncallx_of Tryd.func41 rfl (by decide) ?_
    (repeat' (first|(with_reducible first|(refine hK _ _ ?_;clear hP hK Kp K)|(refine hA ?_;clear hA hB A B)|(refine hK _ ?_;clear hK K))|((with_reducible refine st_opX ?_);intro K Kp hK hP;(conv=>whnf))|(with_reducible refine st_nilX ?_)|((first|with_reducible refine NIf.not_ ?_|((with_reducible refine NIf.no ?s ?_);case s=>rfl)|((with_reducible refine gCX ?_);(refine NCallX.of ?_;((with_reducible refine NCall.isF 49 ?_);refine NCall.subw [0,1] _ _ (cl) rfl (by decide) rfl ?_;rintro _ _ ⟨G,h1,rfl,rfl⟩;refine ⟨Nat.le_of_ble_eq_true rfl,_,rfl,?_⟩))))<;>(conv=>whnf))|(with_reducible first|refine st_seqX ?_|refine st_regionX ?_|refine st_retX ?_)|((with_reducible refine st_condX ?_);intro A B hA hB;(conv=>whnf))|(with_reducible first|refine st_thenX ?_|refine st_thenX_ret ?_)|((with_reducible refine gRX ?_);(refine st_retX_ret rfl ?_;intro K hK;(conv=>whnf)))|((with_reducible refine gFX ?_);(refine st_funcX rfl ?_;intro K hK;(conv=>whnf)))))
    all_goals exact .inl ⟨hspec,G,h1,rfl,MemFits.pre 2 rfl⟩
  | some pr =>
    obtain ⟨p,ls⟩:=pr
    obtain ⟨hpl,hpx⟩:=Su.cut_len hc
    rw [hc] at cl hspec
    dsimp only at hspec
    have cl:=cl.mono fun r m h=>show ∃ t2 G v,ls=Su.sp 10 t2∧t2.length<tx.length∧F.le G∧Su.strs G v p∧SlOk v p.length∧r = .tup [.hs v p.length,.bool true]∧m=[hpB G,Su.rB b t2 no] from by
      rcases h with ⟨h,_⟩ | ⟨p',t2,G,v,h1,h2,h3,h4,h5,h6⟩
      · cases h
      · cases h1;exact ⟨t2,G,v,rfl,h2,h3,h4,h4.ok,h5,h6⟩
    have cf:=fun t2=>fail40_c b t2 no
    unfold Su.rB at cl cf ⊢
    unfold Su.wWeights at cl
    refine ncallx_of Tryd.func41 rfl (by decide) ?_
    (repeat' (first|(with_reducible first|(refine hK _ _ ?_;clear hP hK Kp K)|(refine hB ?_;clear hA hB A B)|(refine hK _ ?_;clear hK K))|((with_reducible refine st_opX ?_);intro K Kp hK hP;(conv=>whnf))|(with_reducible refine st_nilX ?_)|((first|with_reducible refine NIf.not_ ?_|((with_reducible refine NIf.yes ?s ?_);case s=>rfl)|((with_reducible refine NH.mk ?s ?_);case s=>(and_intros<;>omega))|((with_reducible refine gCX ?_);(refine NCallX.of ?_;((with_reducible refine NCall.isF 49 ?_);refine NCall.subw [0,1] _ _ (cl) rfl (by decide) rfl ?_;rintro _ _ ⟨t2,G,v,h1,h2,h3,h4,hok,rfl,rfl⟩;refine ⟨Nat.le_of_ble_eq_true rfl,_,rfl,?_⟩))))<;>(conv=>whnf))|(with_reducible first|refine st_seqX ?_|refine st_regionX ?_|refine st_blockX ?_|refine st_skipX ?_)|((with_reducible refine st_condX ?_);intro A B hA hB;(conv=>whnf))|(with_reducible refine st_thenX ?_)|((with_reducible refine gFX ?_);(refine st_funcX rfl ?_;intro K hK;(conv=>whnf)))))
    refine st_autoX (α:=Nat × List Nat × Value) (fun (i,xs,u)=>i≤p.length∧Su.all Su.hex (p.take i)=some xs∧xs.length=i) (fun (i,xs,u)=>[.keep,.keep,.keep,.keep,.keep,.keep,.set (.sl 2 u xs.length),.keep,.drop,.drop,.drop,.keep,.keep,.keep,.keep,.keep,.keep,.keep,.keep,.keep,.set (.int .i64 i),.drop,.drop,.drop,.drop,.drop,.drop,.drop,.drop,.drop,.drop,.drop,.drop,.drop,.drop,.drop,.drop,.drop,.drop,.drop,.drop,.drop,.drop,.drop,.keep,.keep,.keep,.keep,.keep,.keep,.keep,.keep]) (fun (i,xs,u)=>[.keep,.keep,.set ⟨addrOf u,Su.hexAV xs,.row u 43 1 xs.length⟩]) (fun (i,xs,u)=>p.length - i) (0,[],.slice none 0 0) ⟨Nat.zero_le _,rfl,rfl⟩ ?_ ?_ ?_
    · repeat (first|exact FitsSl.nil|refine FitsSl.any ?_|refine FitsSl.cons (Fit1.int (by first | rfl | omega)) ?_|refine FitsSl.cons (Fit1.bool rfl) ?_|refine FitsSl.cons (Fit1.same (by intro h;cases h) (by with_reducible rfl)) ?_|refine FitsSl.cons Fit1.nil_sl ?_)
    · exact MemFits.nilRow _ _ _
    (intro ⟨i,xs,u⟩ ⟨hi,hxs,hxl⟩;intro K hK;(conv=>whnf);refine hK _ _ ?_;clear hK K)
    dsimp only at hi hxs hxl ⊢
    by_cases hlt:i<p.length
    · have e0:G.c ((addrOf v).add i) (.string ⟨p[i].toArray⟩):=RowF.get1 (f0:=fun x=>.string ⟨x.toArray⟩) h4 hlt
      obtain ⟨s1,s2⟩:=Su.all_step p i hlt xs hxs
      have cu:=uint40_c G (hE.mono h3) p[i] (by have:=hpx p[i] (List.getElem_mem hlt);omega)
      have cf:=cf t2
      generalize p[i]=y at *
      cases hy:Su.hex y with
      | some n =>
        obtain ⟨hb,hn⟩:=Su.hex_some.1 hy
        have cu:NCall Tryd.prog 51 [.str y,.int .i64 16,.int .i64 64] [hpB G] fun r m=>r = .tup [.int .u64 (n:Nat),.raw .nilIface]∧m=[hpB G]:=cu.mono fun r m ⟨v',x,⟨k1,k2,k3⟩,k4,k5⟩=>by
          obtain ⟨rfl,rfl⟩:=k2 n hn hb.symm
          exact ⟨k4,k5⟩
        have cb:=bits40_m n hn
        rw [hb] at cb
        (repeat' (first|(with_reducible first|(refine hK _ _ ?_;clear hP hK Kp K)|(refine hA ?_;clear hA hB A B)|(refine hB ?_;clear hA hB A B))|((with_reducible first|refine st_opX ?_|refine st_opXg ?_);intro K Kp hK hP;(conv=>whnf))|(with_reducible refine st_nilX ?_)|((first|((with_reducible refine NV.i64 ?s ?_);case s=>omega)|with_reducible refine NIf.not_ ?_|((with_reducible refine NIf.decY ?s ?_);case s=>first|with_reducible rfl|omega)|((with_reducible refine NIf.no ?s ?_);case s=>rfl)|(with_reducible first|refine NN.cast ?_|refine NN.a2 ?_)|((with_reducible refine NH.mk ?s ?_);case s=>(and_intros<;>first|with_reducible rfl|((with_reducible refine gOnes ?_);rfl)|((with_reducible refine gLen ?_);rfl)|omega))|((with_reducible refine gCX ?_);(refine NCallX.of ?_;(first|((with_reducible refine NCall.isF 51 ?_);refine NCall.subE [0] (cu) rfl (by decide) rfl rfl ?_)|((with_reducible refine NCall.isF 24 ?_);refine NCall.subE [] (cb) rfl (by decide) rfl rfl ?_))))|(with_reducible refine NLd.of (by with_reducible assumption) ?_))<;>(conv=>whnf))|(with_reducible first|refine st_seqX ?_|refine st_regionX ?_|refine st_blockX ?_|refine st_skipX ?_)|((with_reducible refine st_condX ?_);intro A B hA hB;(conv=>whnf))|(with_reducible first|refine z9 ?_|refine st_thenX ?_)|((intro _;skip)<;>(conv=>whnf))))
        · rename_i w2
          refine st_round (i+1,xs++[n],w2) ⟨hlt,s2 n hy,by rw [List.length_append,hxl];rfl⟩ (by dsimp only;omega) ?_ ?_
          · dsimp only
            rw [List.length_append]
            repeat (first|exact FitsSl.nil|refine FitsSl.any ?_|refine FitsSl.cons (Fit1.int (by first | rfl | omega)) ?_|refine FitsSl.cons (Fit1.bool rfl) ?_|refine FitsSl.cons (Fit1.same (by intro h;cases h) (by with_reducible rfl)) ?_|refine FitsSl.cons (Fit1.sl rfl) ?_)
          · dsimp only
            rw [List.length_append]
            unfold Su.hexAV
            rw [List.map_append]
            exact MemFits.pre 3 rfl
      | none =>
        have hne:∀ v',v'<18446744073709551616→¬ Su.bits v'=y:=fun v' hv' e=>by
          have:=Su.hex_some.2 ⟨e,hv'⟩
          rw [hy] at this;cases this
        have cu:NCall Tryd.prog 51 [.str y,.int .i64 16,.int .i64 64] [hpB G] fun r m=>∃ v x,(v<18446744073709551616∧(x = .raw .nilIface∨∃ t p,x = .ifc t (.raw p)))∧r = .tup [.int .u64 (v:Nat),x]∧m=[hpB G]:=cu.mono fun r m ⟨v',x,⟨k1,k2,k3⟩,k4,k5⟩=>⟨v',x,⟨k1,k3⟩,k4,k5⟩
        have cb:=fun v' hv'=>bits40_m v' hv'
        (repeat' (first|(with_reducible first|(refine hK _ _ ?_;clear hP hK Kp K)|(refine hA ?_;clear hA hB A B))|((with_reducible refine st_opX ?_);intro K Kp hK hP;(conv=>whnf))|(with_reducible refine st_nilX ?_)|((first|((with_reducible refine NIf.decY ?s ?_);case s=>omega)|(with_reducible first|refine NN.cast ?_|refine NN.a2 ?_)|((with_reducible refine NH.mk ?s ?_);case s=>(and_intros<;>omega))|((with_reducible refine gCX ?_);(refine NCallX.of ?_;((with_reducible refine NCall.isF 51 ?_);refine NCall.subw [0] _ _ (cu) rfl (by decide) rfl ?_;rintro _ _ ⟨v',x,⟨hv',hx⟩,rfl,rfl⟩;refine ⟨Nat.le_of_ble_eq_true rfl,_,rfl,?_⟩)))|(with_reducible refine NLd.of (by with_reducible assumption) ?_))<;>(conv=>whnf))|(with_reducible first|refine st_seqX ?_|refine st_regionX ?_|refine st_blockX ?_|refine st_skipX ?_)|((with_reducible refine st_condX ?_);intro A B hA hB;(conv=>whnf))|(with_reducible refine st_thenX ?_)))
        rcases hx with rfl | ⟨t,q,rfl⟩
        all_goals (conv=>whnf)
        · have cb:=cb v' hv'
          have hne:=hne v' hv'
          generalize Su.bits v'=z at *
          (repeat' (first|(with_reducible first|(refine hK _ _ ?_;clear hP hK Kp K)|(refine hP _ _ ?_;clear hP hK Kp K))|(with_reducible (refine hA ?_;clear hA hB A B))|((with_reducible refine gOX ?_);(first|((with_reducible first|refine st_opX ?_|refine st_opXg ?_);intro K Kp hK hP;(conv=>whnf))|(with_reducible refine st_nilX ?_)))|((first|((with_reducible refine gI ?_);(first|(((with_reducible refine NIf.yes ?s ?_);case s=>(simp [hne];done)))|(((with_reducible refine NIf.no ?s ?_);case s=>(simp [hne];done)))))|((with_reducible refine gCX ?_);(first|((with_reducible refine NCallX.isF 42 ?_);refine NCallX.subw [1] _ _ (cf) rfl (by decide) rfl ?_ ?_;((rintro _ _ ⟨⟩)<;>refine ⟨Nat.le_of_ble_eq_true rfl,_,rfl,?_⟩);rotate_right;((rintro _ _ ⟨rfl,rfl⟩)<;>refine ⟨Nat.le_of_ble_eq_true rfl,?_⟩))|(refine NCallX.of ?_;(((with_reducible refine NCall.isF 24 ?_);refine NCall.subE [] (cb) rfl (by decide) rfl rfl ?_))))))<;>(conv=>whnf))|((with_reducible refine gXX ?_);(first|(with_reducible first|refine st_seqX ?_|refine st_regionX ?_)|((with_reducible refine st_condX ?_);intro A B hA hB;(conv=>whnf))))|(with_reducible first|refine st_thenX ?_|refine st_thenX_panic ?_|refine st_block_panic ?_|refine st_round_panic ?_)|((with_reducible refine gRX ?_);((with_reducible refine st_retX_panic ?_)))))
          all_goals exact ⟨by rw [hspec,s1 hy],rfl,G,t2,h3,MemFits.pre 2 rfl⟩
        · (repeat' (first|(with_reducible first|(refine hK _ _ ?_;clear hP hK Kp K)|(refine hP _ _ ?_;clear hP hK Kp K))|(with_reducible (refine hA ?_;clear hA hB A B))|((with_reducible refine gOX ?_);(first|((with_reducible first|refine st_opX ?_|refine st_opXg ?_);intro K Kp hK hP;(conv=>whnf))|(with_reducible refine st_nilX ?_)))|((first|((with_reducible refine gI ?_);(((with_reducible refine NIf.yes ?s ?_);case s=>rfl)))|((with_reducible refine gCX ?_);((with_reducible refine NCallX.isF 42 ?_);refine NCallX.subw [1] _ _ (cf) rfl (by decide) rfl ?_ ?_;((rintro _ _ ⟨⟩)<;>refine ⟨Nat.le_of_ble_eq_true rfl,_,rfl,?_⟩);rotate_right;((rintro _ _ ⟨rfl,rfl⟩)<;>refine ⟨Nat.le_of_ble_eq_true rfl,?_⟩))))<;>(conv=>whnf))|((with_reducible refine gXX ?_);(first|(with_reducible first|refine st_seqX ?_|refine st_regionX ?_)|((with_reducible refine st_condX ?_);intro A B hA hB;(conv=>whnf))))|(with_reducible first|refine st_thenX ?_|refine st_thenX_panic ?_|refine st_block_panic ?_|refine st_round_panic ?_)|((with_reducible refine gRX ?_);((with_reducible refine st_retX_panic ?_)))))
          all_goals exact ⟨by rw [hspec,s1 hy],rfl,G,t2,h3,MemFits.pre 2 rfl⟩
    · obtain rfl:i=p.length:=by omega
      rw [List.take_length] at hxs
      rw [hxs] at hspec
      dsimp only at hspec
      (repeat' (first|(with_reducible first|(refine hK _ _ ?_;clear hP hK Kp K)|(refine hB ?_;clear hA hB A B)|(refine hK _ ?_;clear hK K))|((with_reducible refine st_opX ?_);intro K Kp hK hP;(conv=>whnf))|(with_reducible refine st_nilX ?_)|((first|((with_reducible refine NV.i64 ?s ?_);case s=>omega)|((with_reducible refine NIf.decN ?s ?_);case s=>omega)|(with_reducible refine NN.a5 ?_)|((with_reducible refine NH.mk ?s ?_);case s=>(and_intros<;>first|with_reducible rfl|((with_reducible refine gOnes ?_);rfl)|((with_reducible refine gLen ?_);rfl))))<;>(conv=>whnf))|(with_reducible first|refine st_seqX ?_|refine st_regionX ?_|refine st_exitX ?_|refine st_retX ?_)|((with_reducible refine st_condX ?_);intro A B hA hB;(conv=>whnf))|(with_reducible first|refine z10 ?_|refine z19 ?_|refine st_thenX ?_|refine st_thenX_exit ?_)|((with_reducible refine gRX ?_);(refine st_retX_ret rfl ?_;intro K hK;(conv=>whnf)))))
      all_goals exact .inr ⟨xs,t2,G,u,by rw [hspec,h1],h2,h3,rfl,MemFits.pick [0,2,1] (by decide) rfl⟩
end Go.Proofs.YtgphhbadnjfbjaaDoor
