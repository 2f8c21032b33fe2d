import Derived.Test.YtgphhbadnjfbjaaDoorSu2
namespace Go.Proofs.YtgphhbadnjfbjaaDoor
open Go.Sx
set_option maxRecDepth 20000
set_option linter.unusedSimpArgs false
set_option linter.unusedVariables false
set_option maxHeartbeats 4000000
set_option linter.unusedVariables false
namespace Su
def dg (n i:Nat):UInt8:=hx (n / 16 ^ (15 - i) % 16)
theorem bitsN_range:∀ k n:Nat,bitsN k n=(List.range k).map fun i=>hx (n / 16 ^ (k - 1 - i) % 16)
  | 0,_=>rfl
  | k+1,n=>by
    rw [bitsN,bitsN_range k,List.range_succ,List.map_append]
    congr 1
    · refine List.map_congr_left fun i hi=>?_
      have hi:=List.mem_range.1 hi
      rw [Nat.div_div_eq_div_mul,Nat.mul_comm,← Nat.pow_succ,show (k - 1 - i).succ=k+1 - 1 - i by omega]
    · simp
theorem bits_range (n:Nat):bits n=(List.range 16).map (dg n):=bitsN_range 16 n
def u8AV (l:List UInt8):List AV:=l.map fun c=>.int .u8 c.toNat
theorem u8AV_den (l:List UInt8):denL (u8AV l)=l.map fun c=>Value.int .u8 c.toNat:=by
  induction l with
  | nil=>rfl
  | cons c l ih=>simp only [u8AV,List.map_cons,denL,AV.den] at *;rw [ih]
def bAV (n i:Nat):List AV:=u8AV ((bits n).take i++List.replicate (16 - i) 0)
theorem bits_len (n:Nat):(bits n).length=16:=bitsN_len 16 n
theorem bits_at (n i:Nat) (h:i<16):(bits n)[i]'(by rw [bits_len];exact h)=dg n i :=
  (List.getElem_of_eq (bits_range n) _).trans (by rw [List.getElem_map,List.getElem_range])
theorem bAV_set (n i:Nat) (h:i<16):(bAV n i).set i (.int .u8 (dg n i).toNat)=bAV n (i+1):=by
  have hl:=bits_len n
  have hb:=bits_at n i h
  unfold bAV u8AV
  rw [← List.map_set (f:=fun c:UInt8=>AV.int .u8 c.toNat) (a:=dg n i),List.set_append_right _ _ (by rw [List.length_take];omega),List.length_take]
  rw [show i - min i (bits n).length=0 by omega,show 16 - i=(16 - (i+1))+1 by omega,List.replicate_succ,List.set_cons_zero,List.take_succ_eq_append_getElem (by rw [hl];exact h),hb]
  simp
theorem bAV_all (n:Nat):denL (bAV n 16)=(bits n).map fun c=>Value.int .u8 c.toNat:=by
  unfold bAV
  rw [u8AV_den,List.take_of_length_le (by rw [bits_len];exact Nat.le_refl _)]
  simp
theorem and15 (m:Nat):bitv .and .u64 (m:Int) 15=((m % 16:Nat):Int):=by
  have:=bitv_mask (k:=.u64) (n:=4) (by decide) (x:=(m:Int)) (by omega)
  have e:((2 ^ 4 - 1:Nat):Int)=15:=rfl
  rw [e] at this
  rw [this]
  omega
theorem pow16:∀ i:Nat,i<16→((2:Int) ^ (4*(15 - i)))=((16 ^ (15 - i):Nat):Int):=by decide +kernel
theorem hx_at:∀ d:Nat,d<16→([48,49,50,51,52,53,54,55,56,57,97,98,99,100,101,102]:List UInt8).getD d 0=hx d:=by decide +kernel
end Su
theorem bits40_c (n:Nat) (hn:n<18446744073709551616):NCall Tryd.prog 24 [.int .u64 n] [] fun r _=>r = .str (Su.bits n):=by
  refine ncall_of Tryd.func24 rfl (by decide) ?_
  (repeat' (first|(with_reducible first|(refine hK _ _ ?_;clear hK K)|(refine hK _ ?_;clear hK K))|((with_reducible refine z25 ?_);intro K hK;(conv=>whnf))|(with_reducible refine z0 ?_)|((first|(with_reducible refine NN.lit ?_)|((with_reducible refine NH.mk ?s ?_);case s=>(and_intros<;>first|with_reducible rfl|((with_reducible refine gLen ?_);rfl)|omega)))<;>(conv=>whnf))|(with_reducible first|refine z3 ?_|refine z4 ?_|refine z5 ?_|refine z1 ?_|refine z2 ?_)|((with_reducible refine gF ?_);(refine z33 rfl ?_;intro K hK;(conv=>whnf)))|((intro _;skip)<;>(conv=>whnf))))
  rename_i b0
  refine st_auto (α:=Nat) (fun i=>i≤16) (fun i=>[.keep,.keep,.keep,.keep,.drop,.keep,.keep,.keep,.set (.int .i64 i),.drop,.drop,.drop,.drop,.drop,.drop,.drop,.drop,.drop,.drop,.drop,.drop,.drop,.keep,.keep]) (fun i=>[.cells (Su.bAV n i)]) (fun i=>16 - i) 0 (Nat.zero_le _) ?_ ?_ ?_
  · repeat (first|exact FitsSl.nil|refine FitsSl.any ?_|refine FitsSl.cons (Fit1.int (by first | rfl | omega)) ?_|refine FitsSl.cons (Fit1.str rfl) ?_|refine FitsSl.cons (Fit1.same (by intro h;cases h) (by with_reducible rfl)) ?_)
  · exact MemFits.eq rfl
  (intro i hi;intro K hK;(conv=>whnf);refine hK _ _ ?_;clear hK K)
  by_cases hlt:i<16
  · have hq:bitv BinOp.and IntKind.u64 ((n:Int).fdiv (2 ^ min (60 - 4*(i:Int)).toNat IntKind.u64.bits)) 15=((n / 16 ^ (15 - i) % 16:Nat):Int):=by
      have e:(n:Int).fdiv (2 ^ min (60 - 4*(i:Int)).toNat IntKind.u64.bits)=((n / 16 ^ (15 - i):Nat):Int):=by
        have hk:min (60 - 4*(i:Int)).toNat IntKind.u64.bits=4*(15 - i):=by have hb:IntKind.u64.bits=64:=rfl;rw [hb];omega
        rw [hk,Su.pow16 i hlt,Int.fdiv_eq_ediv_of_nonneg _ (Int.natCast_nonneg _)]
        rfl
      rw [e,Su.and15]
    have hlq:n / 16 ^ (15 - i) % 16<16:=Nat.mod_lt _ (by decide)
    have hd:([48,49,50,51,52,53,54,55,56,57,97,98,99,100,101,102]:List UInt8).getD (n / 16 ^ (15 - i) % 16) 0=Su.dg n i:=Su.hx_at _ hlq
    have hset:=Su.bAV_set n i hlt
    have hbl:(Su.bAV n i).length=16:=by
      have:=Su.bits_len n
      unfold Su.bAV Su.u8AV
      rw [List.length_map,List.length_append,List.length_take,List.length_replicate];omega
    generalize n / 16 ^ (15 - i) % 16=q at *
    (repeat' (first|(with_reducible first|(refine hK _ _ ?_;clear hK K)|(refine hA ?_;clear hA hB A B))|((with_reducible refine gO ?_);(first|((with_reducible refine z25 ?_);intro K hK;(conv=>whnf))|(with_reducible refine z0 ?_)))|((first|((with_reducible refine gV ?_);(first|((with_reducible refine NV.i64 ?s ?_);case s=>omega)|(with_reducible refine NV.keep ?_)))|((with_reducible refine gI ?_);(((with_reducible refine NIf.decY ?s ?_);case s=>omega)))|((with_reducible refine gN ?_);(first|(((with_reducible refine NN.eq (n:=q) ?side ?_);case side=>omega))|(with_reducible first|refine NN.cast ?_|refine NN.a2 ?_)))|((with_reducible refine gH ?_);(first|(((with_reducible refine NH.mk ?side ?_);case side=>(and_intros<;>first | with_reducible rfl | omega | ((rw [hq];simp;omega)))))|((with_reducible refine NH.mk ?s ?_);case s=>(and_intros<;>first|with_reducible rfl|((with_reducible refine gOnes ?_);rfl)|((with_reducible refine gLen ?_);rfl))))))<;>(conv=>whnf))|(refine putK.one (by omega) ?_;conv=>whnf)|((with_reducible refine gX ?_);(first|(with_reducible first|refine z3 ?_|refine z4 ?_|refine z5 ?_|refine z6 ?_)|((with_reducible refine z29 ?_);intro A B hA hB;(conv=>whnf))))|(with_reducible first|refine z1 ?_|refine z2 ?_|refine z9 ?_)))
    all_goals
      refine st_round (i+1) (by omega) (by omega) ?_ ?_
      · repeat (first|exact FitsSl.nil|refine FitsSl.any ?_|refine FitsSl.cons (Fit1.int (by first | rfl | omega)) ?_|refine FitsSl.cons (Fit1.str rfl) ?_|refine FitsSl.cons (Fit1.same (by intro h;cases h) (by with_reducible rfl)) ?_)
      · rw [hd,hset]
        exact MemFits.eq rfl
  · obtain rfl:i=16:=by omega
    (repeat' (first|(with_reducible first|(refine hK _ _ ?_;clear hK K)|(refine hB ?_;clear hA hB A B))|((with_reducible refine z25 ?_);intro K hK;(conv=>whnf))|(with_reducible refine z0 ?_)|((first|((with_reducible refine NIf.decN ?s ?_);case s=>omega)|((with_reducible refine NH.mk ?s ?_);case s=>(and_intros<;>with_reducible rfl)))<;>(conv=>whnf))|(with_reducible first|refine z3 ?_|refine z4 ?_|refine z7 ?_)|((with_reducible refine z29 ?_);intro A B hA hB;(conv=>whnf))|(with_reducible first|refine z1 ?_|refine z2 ?_|refine z10 ?_|refine z11 ?_|refine z19 ?_)))
    have key:=Su.bAV_all n
    generalize Su.bAV n 16=cs at *
    refine NBytes.mk (Su.bits n) key ?_
    (conv=>whnf)
    (repeat' (first|(with_reducible first|(refine hK _ _ ?_;clear hK K)|(refine hK _ ?_;clear hK K))|((with_reducible refine z25 ?_);intro K hK;(conv=>whnf))|(with_reducible first|refine z0 ?_|refine z8 ?_|refine z1 ?_|refine z2 ?_)|((with_reducible refine gR ?_);(refine z31 rfl ?_;intro K hK;(conv=>whnf)))))
    all_goals rfl
namespace Su
theorem hx_mem:∀ (k n:Nat) (c:UInt8),c∈bitsN k n→∃ d,d<16∧c=hx d
  | 0,_,c,h=>by cases h
  | k+1,n,c,h=>by
    rw [bitsN] at h
    rcases List.mem_append.1 h with h | h
    · exact hx_mem k _ c h
    · exact ⟨n % 16,Nat.mod_lt _ (by decide),List.mem_singleton.1 h⟩
end Su
namespace Su
def low (c:Nat):Nat:=(Go.bits .or .u8 c 32).toNat
theorem low_all:∀ c:Nat,c<256→Go.bits .or .u8 (c:Int) 32=(low c:Nat)∧low c<256:=by decide +kernel
theorem low_lt (c:Nat) (h:c<256):low c<256:=(low_all c h).2
theorem hx_low:∀ d:Nat,d<16→((48≤(hx d).toNat∧(hx d).toNat≤57∧(hx d).toNat - 48=hv (hx d))∨(¬ (48≤(hx d).toNat∧(hx d).toNat≤57)∧97≤low (hx d).toNat∧low (hx d).toNat≤102∧low (hx d).toNat - 87=hv (hx d)))∧hv (hx d)<16:=by decide +kernel
end Su
theorem lower40_c (c:Nat):NCall Tryd.prog 64 [.int .u8 c] [] fun r m=>r = .int .u8 (bits .or .u8 c 32)∧m=[]:=by
  refine (ncall_below (r:=.int .u8 (bits .or .u8 c 32)) (Go.Sx.enters_of Tryd.func64 rfl (by decide)) fun w hw=>?_).mono fun r m h=>h
  refine (Tryd.internal_strconv_lower c w).mono fun e' w' ⟨h1,h2⟩=>?_
  subst h2
  exact ⟨h1,rfl,rfl,rfl,Nat.le_refl _,fun _ _=>rfl⟩
theorem puint_c (s:List UInt8) (hs:s.length≤100000000):NCall Tryd.prog 58 [.str s,.int .i64 16,.int .i64 64] [] fun r _=>∃ (v:Nat) (e:AV),v<18446744073709551616∧r = .tup [.int .u64 v,e]∧(e = .raw .nilIface∨e = .ifc 107 (.int .i64 2)∨e = .ifc 107 (.int .i64 1))∧∀ n,n<18446744073709551616→s=Su.bits n→v=n∧e = .raw .nilIface:=by
  refine NCallX.never ?_
  refine ncallx_of Tryd.func58 rfl (by decide) ?_
  by_cases h0:s=[]
  · subst h0
    (repeat' (first|(with_reducible first|(refine hK _ _ ?_;clear hP hK Kp K)|(refine hA ?_;clear hA hB A B)|(refine hK _ ?_;clear hK K))|((with_reducible refine st_opX ?_);intro K Kp hK hP;(conv=>whnf))|(with_reducible refine st_nilX ?_)|(((with_reducible refine NIf.decY ?s ?_);case s=>with_reducible rfl)<;>(conv=>whnf))|(with_reducible first|refine st_seqX ?_|refine st_regionX ?_|refine st_retX ?_)|((with_reducible refine st_condX ?_);intro A B hA hB;(conv=>whnf))|(with_reducible first|refine st_thenX ?_|refine st_thenX_ret ?_)|((with_reducible refine gRX ?_);(refine st_retX_ret rfl ?_;intro K hK;(conv=>whnf)))|((with_reducible refine gFX ?_);(refine st_funcX rfl ?_;intro K hK;(conv=>whnf)))))
    all_goals exact ⟨0,_,by decide,rfl,.inr (.inl rfl),fun n hn h=>by have:=congrArg List.length h;rw [Su.bits_len] at this;cases this⟩
  · (repeat' (first|(with_reducible first|(refine hK _ _ ?_;clear hP hK Kp K)|(refine hA ?_;clear hA hB A B)|(refine hB ?_;clear hA hB A B)|(refine hK _ ?_;clear hK K))|((with_reducible first|refine st_opX ?_|refine st_opXg ?_);intro K Kp hK hP;(conv=>whnf))|(with_reducible refine st_nilX ?_)|((first|((with_reducible refine NV.u64 ?s ?_);case s=>omega)|(with_reducible refine NV.keep ?_)|((with_reducible refine NIf.yes ?s ?_);case s=>(simp [h0];done))|((with_reducible refine NIf.no ?s ?_);case s=>(simp [h0];done))|((with_reducible refine NH.mk ?s ?_);case s=>(and_intros<;>first|with_reducible rfl|omega)))<;>(conv=>whnf))|(with_reducible first|refine st_seqX ?_|refine st_regionX ?_|refine st_blockX ?_|refine st_skipX ?_)|((with_reducible refine st_condX ?_);intro A B hA hB;(conv=>whnf))|(with_reducible first|refine z9 ?_|refine st_thenX ?_)|((with_reducible refine gFX ?_);(refine st_funcX rfl ?_;intro K hK;(conv=>whnf)))|((intro _;skip)<;>(conv=>whnf))))
    refine st_autoX (α:=Nat × Nat) (fun (i,v)=>i≤s.length∧v<18446744073709551616∧∀ n,n<18446744073709551616→s=Su.bits n→v=Su.hval (s.take i)) (fun (i,v)=>[.keep,.keep,.keep,.keep,.keep,.keep,.drop,.drop,.keep,.keep,.keep,.set (.int .u64 18446744073709551615),.set (.bool false),.set (.int .u64 v),.keep,.drop,.drop,.drop,.keep,.keep,.keep,.keep,.keep,.keep,.keep,.keep,.keep,.keep,.keep,.keep,.keep,.keep,.keep,.keep,.keep,.keep,.keep,.keep,.keep,.keep,.keep,.keep,.keep,.keep,.keep,.keep,.keep,.keep,.keep,.keep,.keep,.keep,.keep,.keep,.keep,.keep,.keep,.keep,.keep,.keep,.keep,.keep,.keep,.keep,.keep,.keep,.keep,.keep,.keep,.keep,.keep,.keep,.keep,.keep,.keep,.keep,.keep,.keep,.keep,.keep,.keep,.keep,.keep,.keep,.keep,.keep,.keep,.keep,.keep,.keep,.keep,.keep,.keep,.keep,.keep,.keep,.keep,.keep,.keep,.keep,.keep,.set (.int .i64 i),.drop,.drop,.drop,.drop,.drop,.drop,.drop,.drop,.drop,.drop,.drop,.drop,.drop,.drop,.drop,.drop,.drop,.drop,.drop,.drop,.drop,.drop,.drop,.drop,.drop,.drop,.drop,.drop,.drop,.drop,.drop,.drop,.drop,.drop,.drop,.drop,.drop,.drop,.drop,.drop,.drop,.drop,.drop,.drop,.drop,.drop,.drop,.drop,.drop,.drop,.drop,.drop,.drop,.drop,.drop,.drop,.drop,.drop,.drop,.drop,.drop,.drop,.keep,.keep,.keep,.keep,.keep,.keep,.keep,.keep]) (fun _=>[]) (fun (i,v)=>s.length - i) (0,0) ⟨Nat.zero_le _,by decide,fun _ _ _=>rfl⟩ ?_ ?_ ?_
    · repeat (first|exact FitsSl.nil|refine FitsSl.any ?_|refine FitsSl.cons (Fit1.int (by first | rfl | omega)) ?_|refine FitsSl.cons (Fit1.bool rfl) ?_|refine FitsSl.cons (Fit1.str rfl) ?_|refine FitsSl.cons (Fit1.same (by intro h;cases h) (by with_reducible rfl)) ?_)
    · exact MemFits.eq rfl
    (intro ⟨i,v⟩ ⟨hi,hv,hval⟩;intro K hK;(conv=>whnf);refine hK _ _ ?_;clear hK K)
    dsimp only at hi hv hval ⊢
    by_cases hlt:i<s.length
    · have hnth:(s.map fun c=>AV.int .u8 c.toNat)[i]?=some (.int .u8 s[i].toNat):=by rw [List.getElem?_map,List.getElem?_eq_getElem hlt];rfl
      have cl:=lower40_c s[i].toNat
      have hc:=s[i].toNat_lt
      have hlow:=Su.low_lt s[i].toNat hc
      have hfact:∀ n,n<18446744073709551616→s=Su.bits n→v<1152921504606846976∧((48≤s[i].toNat∧s[i].toNat≤57∧s[i].toNat - 48=Su.hv s[i])∨(¬ (48≤s[i].toNat∧s[i].toNat≤57)∧97≤Su.low s[i].toNat∧Su.low s[i].toNat≤102∧Su.low s[i].toNat - 87=Su.hv s[i]))∧Su.hv s[i]<16∧Su.hval (s.take (i+1))=16*v+Su.hv s[i]:=fun n hn h=>by
        have hlen:s.length=16:=by rw [h];exact Su.bits_len n
        have h1:=hval n hn h
        have h2:=Su.hval_lt 16 (s.take i) (by rw [List.length_take];omega)
        have h3:Su.hval (s.take (i+1))=16*Su.hval (s.take i)+Su.hv s[i]:=by rw [List.take_succ_eq_append_getElem hlt,Su.hval_snoc]
        have h4:(16:Nat) ^ (s.take i).length≤16 ^ 15:=Nat.pow_le_pow_right (by decide) (by rw [List.length_take];omega)
        obtain ⟨d,hd,e⟩:=Su.hx_mem 16 n s[i] (by have h9:∀ t,s=t→s[i]∈t:=fun t e=>e ▸ List.getElem_mem hlt;exact h9 _ h)
        have h5:=Su.hx_low d hd
        rw [← e] at h5
        refine ⟨by rw [h1];exact Nat.lt_of_lt_of_le h2 h4,h5.1,h5.2,by rw [h1];exact h3⟩
      rw [(Su.low_all s[i].toNat hc).1] at cl
      generalize Su.low s[i].toNat=lw at *
      generalize hhv:Su.hv s[i]=dv at *
      generalize hhd:Su.hval (s.take (i+1))=hd at *
      generalize s[i].toNat=c at *
      clear hval
      have hg:∀ Z:Prop,(48≤c→c≤57→Z)→(48≤c→¬ c≤57→Z)→(¬ 48≤c→Z)→Z:=fun Z h1 h2 h3=>by
        by_cases h4:48≤c
        · by_cases h5:c≤57
          · exact h1 h4 h5
          · exact h2 h4 h5
        · exact h3 h4
      have hl:∀ Z:Prop,(97≤lw→lw≤102→Z)→(97≤lw→¬ lw≤102→lw≤122→Z)→(97≤lw→¬ lw≤122→Z)→(¬ 97≤lw→Z)→Z:=fun Z h1 h2 h3 h4=>by
        by_cases g1:97≤lw
        · by_cases g2:lw≤102
          · exact h1 g1 g2
          · by_cases g3:lw≤122
            · exact h2 g1 g2 g3
            · exact h3 g1 g3
        · exact h4 g1
      refine hg _ (fun g1 g2=>?_) (fun g1 g2=>?_) (fun g1=>?_)
      · clear hl
        (repeat' (first|(with_reducible (refine hK _ _ ?_;clear hP hK Kp K))|(with_reducible first|(refine hA ?_;clear hA hB A B)|(refine hB ?_;clear hA hB A B)|(refine hK _ ?_;clear hK K))|((with_reducible refine gOX ?_);(first|((with_reducible first|refine st_opX ?_|refine st_opXg ?_);intro K Kp hK hP;(conv=>whnf))|(with_reducible refine st_nilX ?_)))|((first|((with_reducible refine gV ?_);(((with_reducible first|refine NV.i64 ?s ?_|refine NV.u8 ?s ?_|refine NV.u64 ?s ?_);case s=>omega)))|((with_reducible refine gI ?_);(first|((with_reducible refine NIf.decY ?s ?_);case s=>omega)|((with_reducible refine NIf.decN ?s ?_);case s=>omega)|((with_reducible refine NIf.no ?s ?_);case s=>rfl)|(with_reducible refine NIf.dec (fun _=>?_) (fun _=>?_))))|((with_reducible refine gN ?_);(with_reducible first|refine NN.cast ?_|refine NN.a2 ?_))|((with_reducible refine gH ?_);((with_reducible refine NH.mk ?s ?_);case s=>(and_intros<;>first|with_reducible rfl|omega))))<;>(conv=>whnf))|((refine nthK.of (hnth) ?_)<;>(conv=>whnf))|((with_reducible refine gXX ?_);(first|(with_reducible first|refine st_seqX ?_|refine st_regionX ?_|refine st_blockX ?_|refine st_skipX ?_|refine st_retX ?_)|((with_reducible refine st_condX ?_);intro A B hA hB;(conv=>whnf))))|(with_reducible first|refine z9 ?_|refine z13 ?_|refine z20 ?_|refine st_thenX ?_|refine st_thenX_ret ?_)|((with_reducible refine gRX ?_);(((refine st_retX_ret rfl ?_);intro K hK;(conv=>whnf))))))
        all_goals first | exact ⟨0,_,by decide,rfl,.inr (.inl rfl),fun n hn h=>by have:=hfact n hn h;exfalso;omega⟩ | exact ⟨18446744073709551615,_,by decide,rfl,.inr (.inr rfl),fun n hn h=>by have:=hfact n hn h;exfalso;omega⟩ | skip
        all_goals
          refine st_round (i+1,v*16+(c - 48)) ⟨hlt,by dsimp only;omega,fun n hn h=>by have:=hfact n hn h;dsimp only;omega⟩ (by dsimp only;omega) ?_ (MemFits.eq rfl)
          repeat (first|exact FitsSl.nil|refine FitsSl.any ?_|refine FitsSl.cons (Fit1.int (by first | rfl | omega)) ?_|refine FitsSl.cons (Fit1.bool rfl) ?_|refine FitsSl.cons (Fit1.str rfl) ?_|refine FitsSl.cons (Fit1.same (by intro h;cases h) (by with_reducible rfl)) ?_)
      · refine hl _ (fun k1 k2=>?_) (fun k1 k2 k3=>?_) (fun k1 k2=>?_) (fun k1=>?_)
        all_goals clear hg
        all_goals (repeat' (first|(with_reducible (refine hK _ _ ?_;clear hP hK Kp K))|(with_reducible first|(refine hA ?_;clear hA hB A B)|(refine hB ?_;clear hA hB A B)|(refine hK _ ?_;clear hK K))|((with_reducible refine gOX ?_);(first|((with_reducible first|refine st_opX ?_|refine st_opXg ?_);intro K Kp hK hP;(conv=>whnf))|(with_reducible refine st_nilX ?_)))|((first|((with_reducible refine gV ?_);(((with_reducible first|refine NV.i64 ?s ?_|refine NV.u8 ?s ?_|refine NV.u64 ?s ?_);case s=>omega)))|((with_reducible refine gI ?_);(first|((with_reducible refine NIf.decY ?s ?_);case s=>first|assumption|omega)|((with_reducible refine NIf.decN ?s ?_);case s=>first|assumption|omega)|((with_reducible refine NIf.no ?s ?_);case s=>rfl)|(with_reducible refine NIf.dec (fun _=>?_) (fun _=>?_))))|((with_reducible refine gN ?_);(with_reducible first|refine NN.cast ?_|refine NN.a2 ?_))|((with_reducible refine gH ?_);((with_reducible refine NH.mk ?s ?_);case s=>(and_intros<;>first|with_reducible rfl|omega)))|((with_reducible refine gCX ?_);(refine NCallX.of ?_;(((with_reducible refine NCall.isF 64 ?_);refine NCall.subE [] (cl) rfl (by decide) rfl rfl ?_)))))<;>(conv=>whnf))|((refine nthK.of (hnth) ?_)<;>(conv=>whnf))|((with_reducible refine gXX ?_);(first|(with_reducible first|refine st_seqX ?_|refine st_regionX ?_|refine st_blockX ?_|refine st_skipX ?_|refine st_retX ?_)|((with_reducible refine st_condX ?_);intro A B hA hB;(conv=>whnf))))|(with_reducible first|refine z9 ?_|refine z13 ?_|refine z20 ?_|refine st_thenX ?_|refine st_thenX_ret ?_)|((with_reducible refine gRX ?_);(((refine st_retX_ret rfl ?_);intro K hK;(conv=>whnf))))))
        all_goals first | exact ⟨0,_,by decide,rfl,.inr (.inl rfl),fun n hn h=>by have:=hfact n hn h;exfalso;omega⟩ | exact ⟨18446744073709551615,_,by decide,rfl,.inr (.inr rfl),fun n hn h=>by have:=hfact n hn h;exfalso;omega⟩ | skip
        all_goals
          refine st_round (i+1,v*16+(lw - 87)) ⟨hlt,by dsimp only;omega,fun n hn h=>by have:=hfact n hn h;dsimp only;omega⟩ (by dsimp only;omega) ?_ (MemFits.eq rfl)
          repeat (first|exact FitsSl.nil|refine FitsSl.any ?_|refine FitsSl.cons (Fit1.int (by first | rfl | omega)) ?_|refine FitsSl.cons (Fit1.bool rfl) ?_|refine FitsSl.cons (Fit1.str rfl) ?_|refine FitsSl.cons (Fit1.same (by intro h;cases h) (by with_reducible rfl)) ?_)
      · refine hl _ (fun k1 k2=>?_) (fun k1 k2 k3=>?_) (fun k1 k2=>?_) (fun k1=>?_)
        all_goals clear hg
        all_goals (repeat' (first|(with_reducible (refine hK _ _ ?_;clear hP hK Kp K))|(with_reducible first|(refine hA ?_;clear hA hB A B)|(refine hB ?_;clear hA hB A B)|(refine hK _ ?_;clear hK K))|((with_reducible refine gOX ?_);(first|((with_reducible first|refine st_opX ?_|refine st_opXg ?_);intro K Kp hK hP;(conv=>whnf))|(with_reducible refine st_nilX ?_)))|((first|((with_reducible refine gV ?_);(((with_reducible first|refine NV.i64 ?s ?_|refine NV.u8 ?s ?_|refine NV.u64 ?s ?_);case s=>omega)))|((with_reducible refine gI ?_);(first|((with_reducible refine NIf.decY ?s ?_);case s=>omega)|((with_reducible refine NIf.decN ?s ?_);case s=>omega)|((with_reducible refine NIf.no ?s ?_);case s=>rfl)|(with_reducible refine NIf.dec (fun _=>?_) (fun _=>?_))))|((with_reducible refine gN ?_);(with_reducible first|refine NN.cast ?_|refine NN.a2 ?_))|((with_reducible refine gH ?_);((with_reducible refine NH.mk ?s ?_);case s=>(and_intros<;>first|with_reducible rfl|omega)))|((with_reducible refine gCX ?_);(refine NCallX.of ?_;(((with_reducible refine NCall.isF 64 ?_);refine NCall.subE [] (cl) rfl (by decide) rfl rfl ?_)))))<;>(conv=>whnf))|((refine nthK.of (hnth) ?_)<;>(conv=>whnf))|((with_reducible refine gXX ?_);(first|(with_reducible first|refine st_seqX ?_|refine st_regionX ?_|refine st_blockX ?_|refine st_skipX ?_|refine st_retX ?_)|((with_reducible refine st_condX ?_);intro A B hA hB;(conv=>whnf))))|(with_reducible first|refine z9 ?_|refine z13 ?_|refine z20 ?_|refine st_thenX ?_|refine st_thenX_ret ?_)|((with_reducible refine gRX ?_);(((refine st_retX_ret rfl ?_);intro K hK;(conv=>whnf))))))
        all_goals first | exact ⟨0,_,by decide,rfl,.inr (.inl rfl),fun n hn h=>by have:=hfact n hn h;exfalso;omega⟩ | exact ⟨18446744073709551615,_,by decide,rfl,.inr (.inr rfl),fun n hn h=>by have:=hfact n hn h;exfalso;omega⟩ | skip
        all_goals
          refine st_round (i+1,v*16+(lw - 87)) ⟨hlt,by dsimp only;omega,fun n hn h=>by have:=hfact n hn h;dsimp only;omega⟩ (by dsimp only;omega) ?_ (MemFits.eq rfl)
          repeat (first|exact FitsSl.nil|refine FitsSl.any ?_|refine FitsSl.cons (Fit1.int (by first | rfl | omega)) ?_|refine FitsSl.cons (Fit1.bool rfl) ?_|refine FitsSl.cons (Fit1.str rfl) ?_|refine FitsSl.cons (Fit1.same (by intro h;cases h) (by with_reducible rfl)) ?_)
    · obtain rfl:i=s.length:=by omega
      (repeat' (first|(with_reducible first|(refine hK _ _ ?_;clear hP hK Kp K)|(refine hB ?_;clear hA hB A B)|(refine hK _ ?_;clear hK K))|((with_reducible first|refine st_opX ?_|refine st_opXg ?_);intro K Kp hK hP;(conv=>whnf))|(with_reducible refine st_nilX ?_)|((first|((with_reducible refine NIf.decN ?s ?_);case s=>omega)|((with_reducible refine NIf.no ?s ?_);case s=>rfl))<;>(conv=>whnf))|(with_reducible first|refine st_seqX ?_|refine st_regionX ?_|refine st_skipX ?_|refine st_exitX ?_|refine st_retX ?_)|((with_reducible refine st_condX ?_);intro A B hA hB;(conv=>whnf))|(with_reducible first|refine z10 ?_|refine z19 ?_|refine st_thenX ?_|refine st_thenX_exit ?_)|((with_reducible refine gRX ?_);(refine st_retX_ret rfl ?_;intro K hK;(conv=>whnf)))))
      all_goals exact ⟨v,_,hv,rfl,.inl rfl,fun n hn h=>⟨by have h1:=hval n hn h;rw [List.take_length] at h1;rw [h1,h];exact Su.hval_bits 16 n hn,rfl⟩⟩
end Go.Proofs.YtgphhbadnjfbjaaDoor
