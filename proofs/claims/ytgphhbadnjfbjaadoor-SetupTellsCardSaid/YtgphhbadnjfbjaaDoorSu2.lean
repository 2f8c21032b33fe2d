import Derived.Test.YtgphhbadnjfbjaaDoorSu1
import Derived.Test.YtgphhbadnjfbjaaDoorSxX
import Derived.Test.YtgphhbadnjfbjaaDoorSxCut
import Derived.Test.YtgphhbadnjfbjaaDoorSxK
namespace Go.Sx
open Go.RowKit
set_option linter.unusedVariables false
theorem NCallX.know {P:Program} {f:FuncId} {args:List AV} {m:List Blk} {K K':AV→List Blk→Prop} {Kp Kp':List PanicEntry→List Blk→Prop} (h:NCallX P f args m K Kp)
    (hk:∀ r m',K r m'→(∃ w,MemOk m' w)→∃ r' m'',r'.den=r.den∧MemFits m' m''∧K' r' m'') (hp:∀ ch m',Kp ch m'→∃ m'',MemFits m' m''∧Kp' ch m''):NCallX P f args m K' Kp':=by
  rw [NCallX_iff] at h ⊢
  refine ⟨h.1,fun w hm=>(h.2 w hm).mono fun e w' hq=>?_⟩
  rcases hq with ⟨r,m',h1,rfl,h3,h4,h5⟩ | ⟨r,m',h1,rfl,h3,h4,h5⟩
  · obtain ⟨r',m'',h6,h7,h8⟩:=hk r m' h1 ⟨w',h3⟩
    exact .inl ⟨r',m'',h8,by rw [h6],(h7 w' h3).1,h4,fun b hb=>h5.1 b ((h7 w' h3).2.1 b hb),fun b hb=>h5.2 b ((h7 w' h3).2.2 b hb)⟩
  · obtain ⟨m'',h7,h8⟩:=hp r m' h1
    exact .inr ⟨r,m'',h8,rfl,(h7 w' h3).1,h4,fun b hb=>h5.1 b ((h7 w' h3).2.1 b hb),fun b hb=>h5.2 b ((h7 w' h3).2.2 b hb)⟩
end Go.Sx
namespace Go.Proofs.YtgphhbadnjfbjaaDoor
open Go.Sx
set_option maxRecDepth 20000
set_option linter.unusedSimpArgs false
set_option linter.unusedVariables false
set_option maxHeartbeats 4000000
set_option linter.unusedVariables false
namespace Su
def rB (b:Nat) (tx:List UInt8) (no:Nat):Blk:=⟨⟨b,0,none⟩,[.str tx,.int .i64 no],.var 48⟩
def wrong (no:Nat):List PanicEntry:=[{ v:=.iface 44 (.int .i64 (no:Int)),recovered:=false }]
end Su
theorem fail40_c (b:Nat) (tx:List UInt8) (no:Nat):NCallX Tryd.prog 42 [.ptr 0 ⟨b,0,none⟩ 0] [Su.rB b tx no] (fun _ _=>False) fun ch m=>ch=Su.wrong no∧m=[Su.rB b tx no]:=by
  unfold Su.rB
  refine ncallx_of Tryd.func42 rfl (by decide) ?_
  (repeat' (first|(with_reducible first|(refine hK _ _ ?_;clear hP hK Kp K)|(refine hP _ _ ?_;clear hP hK Kp K)|(refine hK _ ?_;clear hK K))|((with_reducible refine st_opX ?_);intro K Kp hK hP;(conv=>whnf))|((first|(with_reducible refine NN.a5 ?_)|((with_reducible refine NH.mk ?s ?_);case s=>(and_intros<;>with_reducible rfl)))<;>(conv=>whnf))|(with_reducible first|refine st_regionX ?_|refine st_retX_panic ?_)|((with_reducible refine gFX ?_);(refine st_funcX rfl ?_;intro K hK;(conv=>whnf)))))
  all_goals exact ⟨rfl,rfl⟩
def Su.Line (F:Heap) (b:Nat) (tx:List UInt8) (no:Nat) (w:List UInt8) (r:AV) (m:List Blk):Prop :=
  (Su.cut w (Su.sp 10 tx)=none∧∃ G,F.le G∧r = .tup [.hs (.slice none 0 0) 0,.bool false]∧m=[hpB G,Su.rB b tx no]) ∨
  (∃ p t2 G v,Su.cut w (Su.sp 10 tx)=some (p,Su.sp 10 t2)∧t2.length<tx.length∧F.le G∧RowF G 1 (fun x us=>us=strV x) v p∧r = .tup [.hs v p.length,.bool true]∧m=[hpB G,Su.rB b t2 no])
theorem line40_c (F:Heap) (b:Nat) (tx:List UInt8) (hs:tx.length<4294967281) (no:Nat) (w:List UInt8):NCall Tryd.prog 49 [.ptr 1 ⟨b,0,none⟩ 0,.str w] [hpB F,Su.rB b tx no] (Su.Line F b tx no w):=by
  refine NCall.fits (K:=fun r m=>(Su.cut w (Su.sp 10 tx)=none∧∃ G,F.le G∧r.den=(AV.tup [.hs (.slice none 0 0) 0,.bool false]).den∧MemFits m [hpB G,Su.rB b tx no]) ∨
    (∃ p t2 G v,Su.cut w (Su.sp 10 tx)=some (p,Su.sp 10 t2)∧t2.length<tx.length∧F.le G∧RowF G 1 (fun x us=>us=strV x) v p∧r.den=(AV.tup [.hs v p.length,.bool true]).den∧MemFits m [hpB G,Su.rB b t2 no])) ?_ fun r m' hq=>?_
  rotate_left
  · rcases hq with ⟨h1,G,h2,h3,h4⟩ | ⟨p,t2,G,v,h1,h2,h3,h4,h5,h6⟩
    · exact ⟨_,_,h3.symm,h4,.inl ⟨h1,G,h2,rfl,rfl⟩⟩
    · exact ⟨_,_,h5.symm,h6,.inr ⟨p,t2,G,v,h1,h2,h3,h4,rfl,rfl⟩⟩
  have ci:=index40_c tx 10 (by decide)
  unfold Su.rB
  refine ncall_of Tryd.func49 rfl (by decide) ?_
  rcases Su.sp_index 10 tx with ⟨h1,h2,h3⟩ | ⟨i,h1,h2,h3⟩
  · rw [show ((10:Nat).toUInt8)=(10:UInt8) from rfl,h1] at ci
    have hc:Su.cut w (Su.sp 10 tx)=none:=by rw [h3];rfl
    (repeat' (first|(with_reducible first|(refine hK _ _ ?_;clear hK K)|(refine hA ?_;clear hA hB A B)|(refine hK _ ?_;clear hK K))|((with_reducible refine z25 ?_);intro K hK;(conv=>whnf))|(with_reducible refine z0 ?_)|((first|((with_reducible refine NIf.decY ?s ?_);case s=>omega)|(with_reducible refine NN.a5 ?_)|((with_reducible refine NH.mk ?s ?_);case s=>(and_intros<;>with_reducible rfl))|((with_reducible refine NCall.isF 55 ?_);refine NCall.pureE (ci) ?_))<;>(conv=>whnf))|(with_reducible first|refine z3 ?_|refine z4 ?_|refine z8 ?_)|((with_reducible refine z29 ?_);intro A B hA hB;(conv=>whnf))|(with_reducible first|refine z1 ?_|refine z2 ?_|refine z12 ?_)|((with_reducible refine gR ?_);(refine z31 rfl ?_;intro K hK;(conv=>whnf)))|((with_reducible refine gF ?_);(refine z33 rfl ?_;intro K hK;(conv=>whnf)))))
    all_goals exact .inl ⟨hc,F,F.le_refl,rfl,MemFits.pre 2 rfl⟩
  · rw [show ((10:Nat).toUInt8)=(10:UInt8) from rfl,h1] at ci
    have cs:=split_c F (tx.take i) (by rw [List.length_take];omega)
    have hne:=Su.sp_ne 32 (tx.take i)
    have hrest:=Su.sp_ne 10 (tx.drop (i+1))
    have hcut:Su.cut w (Su.sp 10 tx)=if (Su.sp 32 (tx.take i)).head?=some w then some ((Su.sp 32 (tx.take i)).tail,Su.sp 10 (tx.drop (i+1))) else none:=by
      rw [h3]
      cases e:Su.sp 10 (tx.drop (i+1)) with
      | nil=>exact (hrest e).elim
      | cons y r=>rfl
    rw [hcut]
    have hlen:=Su.sp_len 32 (tx.take i)
    rw [List.length_take] at hlen
    generalize Su.sp 32 (tx.take i)=P at *
    obtain ⟨a,l,rfl⟩:∃ a l,P=a::l:=by
      cases P with
      | nil=>exact (hne rfl).elim
      | cons a l=>exact ⟨a,l,rfl⟩
    have cs:=cs.mono fun r m h=>show ∃ F' u,F.le F'∧RowF F' 1 (fun x us=>us=strV x) u (a::l)∧SlOk u (l.length+1)∧F'.c ((addrOf u).add 0) (.string ⟨a.toArray⟩)∧r = .hs u (l.length+1)∧m=[hpB F'] from by
      obtain ⟨F',u,h1,h2,h3,h4⟩:=h
      obtain ⟨us,e1,_,e2⟩:=h4.at_ 0 a rfl
      subst e1
      exact ⟨F',u,h1,h4,h4.ok,e2.1,h2,h3⟩
    have hdl:(tx.drop (i+1)).length<tx.length:=by rw [List.length_drop];omega
    rw [List.length_cons] at hlen
    rw [List.head?_cons,List.tail_cons]
    by_cases hw:a=w
    · subst hw
      rw [if_pos rfl]
      (repeat' (first|(with_reducible first|(refine hK _ _ ?_;clear hK K)|(refine hB ?_;clear hA hB A B)|(refine hK _ ?_;clear hK K))|((with_reducible refine z25 ?_);intro K hK;(conv=>whnf))|(with_reducible refine z0 ?_)|((first|((with_reducible refine NV.i64 ?s ?_);case s=>omega)|((with_reducible refine NIf.no ?s ?_);case s=>(simp ;done))|(with_reducible first|refine NN.lit ?_|refine NN.cast ?_|refine NN.a2 ?_|refine NN.a5 ?_|refine NN.keep ?_)|((with_reducible refine NH.mk ?s ?_);case s=>(and_intros<;>first|with_reducible rfl|((with_reducible refine gOnes ?_);rfl)|((with_reducible refine gLen ?_);rfl)|omega))|((with_reducible refine NCall.isF 55 ?_);refine NCall.pureE (ci) ?_)|((with_reducible refine NCall.isF 56 ?_);refine NCall.subw [0] _ _ (cs) rfl (by decide) rfl ?_;rintro _ _ ⟨F',u,g1,g2,g3,g4,rfl,rfl⟩;refine ⟨Nat.le_of_ble_eq_true rfl,_,rfl,?_⟩)|(with_reducible first|refine NS.keep ?_|refine NLd.of (by with_reducible assumption) ?_))<;>(conv=>whnf))|(with_reducible first|refine z3 ?_|refine z4 ?_|refine z6 ?_|refine z8 ?_)|((with_reducible refine z29 ?_);intro A B hA hB;(conv=>whnf))|(with_reducible first|refine z1 ?_|refine z2 ?_)|((with_reducible refine gR ?_);(refine z31 rfl ?_;intro K hK;(conv=>whnf)))|((with_reducible refine gF ?_);(refine z33 rfl ?_;intro K hK;(conv=>whnf)))))
      all_goals exact .inr ⟨l,tx.drop (i+1),F',cutSl u 1 1 (l.length+1),rfl,hdl,g1,by have:=g2.cut (lo:=1) (hi:=l.length+1) (by omega) (by simp);simpa using this,rfl,MemFits.pre 2 rfl⟩
    · rw [if_neg (by simpa using hw)]
      (repeat' (first|(with_reducible first|(refine hK _ _ ?_;clear hK K)|(refine hA ?_;clear hA hB A B)|(refine hB ?_;clear hA hB A B)|(refine hK _ ?_;clear hK K))|((with_reducible refine z25 ?_);intro K hK;(conv=>whnf))|(with_reducible refine z0 ?_)|((first|((with_reducible refine NIf.no ?s ?_);case s=>(simp ;done))|with_reducible refine NIf.not_ ?_|((with_reducible refine NIf.decN ?s ?_);case s=>assumption)|(with_reducible first|refine NN.lit ?_|refine NN.cast ?_|refine NN.a2 ?_|refine NN.a5 ?_)|((with_reducible refine NH.mk ?s ?_);case s=>(and_intros<;>first|with_reducible rfl|omega))|((with_reducible refine NCall.isF 55 ?_);refine NCall.pureE (ci) ?_)|((with_reducible refine NCall.isF 56 ?_);refine NCall.subw [0] _ _ (cs) rfl (by decide) rfl ?_;rintro _ _ ⟨F',u,g1,g2,g3,g4,rfl,rfl⟩;refine ⟨Nat.le_of_ble_eq_true rfl,_,rfl,?_⟩)|(with_reducible first|refine NS.keep ?_|refine NLd.of (by with_reducible assumption) ?_))<;>(conv=>whnf))|(with_reducible first|refine z3 ?_|refine z4 ?_|refine z6 ?_|refine z8 ?_)|((with_reducible refine z29 ?_);intro A B hA hB;(conv=>whnf))|(with_reducible first|refine z1 ?_|refine z2 ?_|refine z12 ?_)|((with_reducible refine gR ?_);(refine z31 rfl ?_;intro K hK;(conv=>whnf)))|((with_reducible refine gF ?_);(refine z33 rfl ?_;intro K hK;(conv=>whnf)))))
      all_goals exact .inl ⟨rfl,F',g1,rfl,MemFits.pre 2 rfl⟩
theorem atoi40_c (F:Heap) (hE:ErrF F) (s:List UInt8) (hs:s.length≤100000000):NCall Tryd.prog 57 [.str s] [hpB F] fun r m=>(∃ v x,r = .tup [.int .i64 v,x]∧-9223372036854775808≤v∧v≤9223372036854775807∧((Lib.atoiAll s = .ok v∧x = .raw .nilIface)∨((∀ u,Lib.atoiAll s≠.ok u)∧∃ t p,x = .ifc t (.raw p))))∧m=[hpB F]:=by
  obtain ⟨⟨u1,v1,h1⟩,u2,v2,h2⟩:=hE
  refine ncall_kept (Go.Sx.enters_of Tryd.func57 rfl (by decide)) fun w hw=>?_
  have hc:∀ a u,F.c a u→a.block<w.heap.size∧w.cell? a=some u:=(hw.holds (hpB F) (by simp)).2.1
  have hsz:(⟨s.toArray⟩:ByteArray).size=s.length:=by simp [ByteArray.size]
  cases ha:Lib.atoiAll s
  · rename_i v
    obtain ⟨b1,b2⟩:=Lib.atoiAll_bounds ha
    refine (Tryd.strconv_Atoi_ok ⟨s.toArray⟩ (by rw [hsz];omega) v (by simpa using ha) w).mono fun e w' ⟨he,hw'⟩=>?_
    refine ⟨.tup [.int .i64 v,.raw .nilIface],⟨v,.raw .nilIface,rfl,b1,b2,.inl ⟨rfl,rfl⟩⟩,by rw [he];rfl,?_⟩
    rcases hw' with rfl | ⟨t,rfl⟩
    · exact ⟨rfl,rfl,rfl,Nat.le_refl _,fun _ _=>rfl⟩
    · exact ⟨rfl,rfl,rfl,by rw [Lib.bytesWorld_size];omega,fun k hk=>Lib.bytesWorld_at_old w _ _ k hk⟩
  · refine (Any.strconv_Atoi_syntax Tryd.laysC172 ⟨s.toArray⟩ (by rw [hsz];omega) (by simpa using ha) _ w (hc _ _ h1).2 (.inr ⟨_,_,rfl⟩)).mono fun e w' ⟨N,he,_,_,hb⟩=>?_
    exact ⟨.tup [.int .i64 0,.ifc _ (.raw (.pointer (some ⟨N,0,none⟩)))],⟨0,_,rfl,by decide,by decide,.inr ⟨(fun u hu=>by cases hu),_,_,rfl⟩⟩,by rw [he];rfl,hb.os,hb.tape,hb.output,hb.size,hb.block⟩
  · have hb:=Lib.atoiSat_bounds s
    refine (Tryd.strconv_Atoi_range ⟨s.toArray⟩ (by rw [hsz];omega) (by simpa using ha) _ w (hc _ _ h2).2 (.inr ⟨_,_,rfl⟩)).mono fun e w' ⟨N,he,_,_,hb'⟩=>?_
    exact ⟨.tup [.int .i64 (Lib.atoiSat s),.ifc _ (.raw (.pointer (some ⟨N,0,none⟩)))],⟨_,_,rfl,hb.1,hb.2,.inr ⟨(fun u hu=>by cases hu),_,_,rfl⟩⟩,by rw [he];rfl,hb'.os,hb'.tape,hb'.output,hb'.size,hb'.block⟩
theorem number40_c (F:Heap) (hT:TabF F) (hE:ErrF F) (b:Nat) (tx:List UInt8) (no:Nat) (s:List UInt8) (hs:s.length≤100000000):NCallX Tryd.prog 50 [.ptr 1 ⟨b,0,none⟩ 0,.str s] [hpB F,Su.rB b tx no]
    (fun r m=>∃ n,Su.num s=some n∧r = .int .i64 n∧m=[hpB F,Su.rB b tx no]) fun ch m=>Su.num s=none∧ch=Su.wrong no∧m=[hpB F,Su.rB b tx no]:=by
  refine NCallX.fits (K:=fun r m=>∃ n,Su.num s=some n∧r = .int .i64 n∧MemFits m [hpB F,Su.rB b tx no]) (Kp:=fun ch m=>Su.num s=none∧ch=Su.wrong no∧MemFits m [hpB F,Su.rB b tx no]) ?_ (fun r m' ⟨n,h1,h2,h3⟩=>⟨r,_,rfl,h3,n,h1,h2,rfl⟩) fun ch m' h=>⟨_,h.2.2,h.1,h.2.1,rfl⟩
  have ca:=atoi40_c F hE s hs
  have ci:=fun v h=>itoa_c F hT v h
  have cf:=fail40_c b tx no
  unfold Su.rB at cf ⊢
  refine ncallx_of Tryd.func50 rfl (by decide) ?_
  have hnum:Su.num s=match Lib.atoiAll s with
    | .ok v=>if Lib.itoa v=s∧-Su.big≤v∧v≤Su.big then some v else none
    | _=>none:=rfl
  by_cases hok:∃ v,Lib.atoiAll s = .ok v
  · obtain ⟨v,hv⟩:=hok
    have hvb:=Lib.atoiAll_bounds hv
    have ca:NCall Tryd.prog 57 [.str s] [hpB F] fun r m=>r = .tup [.int .i64 v,.raw .nilIface]∧m=[hpB F]:=ca.mono fun r m ⟨⟨v',x,h1,h2,h3,h4⟩,h5⟩=>by
      rcases h4 with ⟨h4,h6⟩ | ⟨h4,h6⟩
      · rw [hv] at h4;cases h4;exact ⟨by rw [h1,h6],h5⟩
      · exact (h4 v hv).elim
    rw [hv] at hnum
    dsimp only at hnum
    unfold Su.big at hnum
    have ci:=ci v hvb
    generalize Lib.itoa v=t at *
    by_cases h1:t=s
    · by_cases h2 : -1125899906842624≤v
      · by_cases h3:v≤1125899906842624
        · rw [if_pos ⟨h1,h2,h3⟩] at hnum
          (repeat' (first|(with_reducible first|(refine hK _ _ ?_;clear hP hK Kp K)|(refine hB ?_;clear hA hB A B)|(refine hK _ ?_;clear hK K))|((with_reducible first|refine st_opX ?_|refine st_opXg ?_);intro K Kp hK hP;(conv=>whnf))|(with_reducible refine st_nilX ?_)|((first|((with_reducible refine NIf.no ?s ?_);case s=>(simp [h1];done))|((with_reducible refine NIf.decN ?s ?_);case s=>omega)|((with_reducible refine gCX ?_);(refine NCallX.of ?_;(first|((with_reducible refine NCall.isF 57 ?_);refine NCall.subE [0] (ca) rfl (by decide) rfl rfl ?_)|((with_reducible refine NCall.isF 47 ?_);refine NCall.subE [0] (ci) rfl (by decide) rfl rfl ?_)))))<;>(conv=>whnf))|(with_reducible first|refine st_seqX ?_|refine st_regionX ?_|refine st_skipX ?_|refine st_retX ?_)|((with_reducible refine st_condX ?_);intro A B hA hB;(conv=>whnf))|(with_reducible refine st_thenX ?_)|((with_reducible refine gRX ?_);(refine st_retX_ret rfl ?_;intro K hK;(conv=>whnf)))|((with_reducible refine gFX ?_);(refine st_funcX rfl ?_;intro K hK;(conv=>whnf)))))
          all_goals exact ⟨v,hnum,rfl,MemFits.pre 2 rfl⟩
        · rw [if_neg fun h=>h3 h.2.2] at hnum
          (repeat' (first|(with_reducible first|(refine hK _ _ ?_;clear hP hK Kp K)|(refine hP _ _ ?_;clear hP hK Kp K))|(with_reducible first|(refine hA ?_;clear hA hB A B)|(refine hK _ ?_;clear hK K))|((with_reducible refine gOX ?_);(first|((with_reducible first|refine st_opX ?_|refine st_opXg ?_);intro K Kp hK hP;(conv=>whnf))|(with_reducible refine st_nilX ?_)))|((first|((with_reducible refine gI ?_);(first|(((with_reducible refine NIf.no ?s ?_);case s=>(simp [h1];done)))|((with_reducible refine NIf.decY ?s ?_);case s=>omega)|((with_reducible refine NIf.decN ?s ?_);case s=>omega)))|((with_reducible refine gCX ?_);(first|((with_reducible refine NCallX.isF 42 ?_);refine NCallX.subw [1] _ _ (cf) rfl (by decide) rfl ?_ ?_;((rintro _ _ ⟨⟩)<;>refine ⟨Nat.le_of_ble_eq_true rfl,_,rfl,?_⟩);rotate_right;((rintro _ _ ⟨rfl,rfl⟩)<;>refine ⟨Nat.le_of_ble_eq_true rfl,?_⟩))|(refine NCallX.of ?_;(first|((with_reducible refine NCall.isF 57 ?_);refine NCall.subE [0] (ca) rfl (by decide) rfl rfl ?_)|((with_reducible refine NCall.isF 47 ?_);refine NCall.subE [0] (ci) rfl (by decide) rfl rfl ?_))))))<;>(conv=>whnf))|((with_reducible refine gXX ?_);(first|(with_reducible first|refine st_seqX ?_|refine st_regionX ?_)|((with_reducible refine st_condX ?_);intro A B hA hB;(conv=>whnf))))|(with_reducible first|refine st_thenX ?_|refine st_thenX_panic ?_)|((with_reducible refine gRX ?_);((with_reducible refine st_retX_panic ?_)))|((with_reducible refine gFX ?_);((refine st_funcX rfl ?_);intro K hK;(conv=>whnf)))))
          all_goals exact ⟨hnum,rfl,MemFits.pre 2 rfl⟩
      · rw [if_neg fun h=>h2 h.2.1] at hnum
        (repeat' (first|(with_reducible first|(refine hK _ _ ?_;clear hP hK Kp K)|(refine hP _ _ ?_;clear hP hK Kp K))|(with_reducible first|(refine hA ?_;clear hA hB A B)|(refine hK _ ?_;clear hK K))|((with_reducible refine gOX ?_);(first|((with_reducible first|refine st_opX ?_|refine st_opXg ?_);intro K Kp hK hP;(conv=>whnf))|(with_reducible refine st_nilX ?_)))|((first|((with_reducible refine gI ?_);(first|(((with_reducible refine NIf.yes ?s ?_);case s=>(simp [h1];done)))|(((with_reducible refine NIf.no ?s ?_);case s=>(simp [h1];done)))|((with_reducible refine NIf.decY ?s ?_);case s=>omega)))|((with_reducible refine gCX ?_);(first|((with_reducible refine NCallX.isF 42 ?_);refine NCallX.subw [1] _ _ (cf) rfl (by decide) rfl ?_ ?_;((rintro _ _ ⟨⟩)<;>refine ⟨Nat.le_of_ble_eq_true rfl,_,rfl,?_⟩);rotate_right;((rintro _ _ ⟨rfl,rfl⟩)<;>refine ⟨Nat.le_of_ble_eq_true rfl,?_⟩))|(refine NCallX.of ?_;(first|((with_reducible refine NCall.isF 57 ?_);refine NCall.subE [0] (ca) rfl (by decide) rfl rfl ?_)|((with_reducible refine NCall.isF 47 ?_);refine NCall.subE [0] (ci) rfl (by decide) rfl rfl ?_))))))<;>(conv=>whnf))|((with_reducible refine gXX ?_);(first|(with_reducible first|refine st_seqX ?_|refine st_regionX ?_)|((with_reducible refine st_condX ?_);intro A B hA hB;(conv=>whnf))))|(with_reducible first|refine st_thenX ?_|refine st_thenX_panic ?_)|((with_reducible refine gRX ?_);((with_reducible refine st_retX_panic ?_)))|((with_reducible refine gFX ?_);((refine st_funcX rfl ?_);intro K hK;(conv=>whnf)))))
        all_goals exact ⟨hnum,rfl,MemFits.pre 2 rfl⟩
    · rw [if_neg fun h=>h1 h.1] at hnum
      (repeat' (first|(with_reducible first|(refine hK _ _ ?_;clear hP hK Kp K)|(refine hP _ _ ?_;clear hP hK Kp K))|(with_reducible first|(refine hA ?_;clear hA hB A B)|(refine hK _ ?_;clear hK K))|((with_reducible refine gOX ?_);(first|((with_reducible first|refine st_opX ?_|refine st_opXg ?_);intro K Kp hK hP;(conv=>whnf))|(with_reducible refine st_nilX ?_)))|((first|((with_reducible refine gI ?_);(first|(((with_reducible refine NIf.yes ?s ?_);case s=>(simp [h1];done)))|(((with_reducible refine NIf.no ?s ?_);case s=>(simp [h1];done)))))|((with_reducible refine gCX ?_);(first|((with_reducible refine NCallX.isF 42 ?_);refine NCallX.subw [1] _ _ (cf) rfl (by decide) rfl ?_ ?_;((rintro _ _ ⟨⟩)<;>refine ⟨Nat.le_of_ble_eq_true rfl,_,rfl,?_⟩);rotate_right;((rintro _ _ ⟨rfl,rfl⟩)<;>refine ⟨Nat.le_of_ble_eq_true rfl,?_⟩))|(refine NCallX.of ?_;(first|((with_reducible refine NCall.isF 57 ?_);refine NCall.subE [0] (ca) rfl (by decide) rfl rfl ?_)|((with_reducible refine NCall.isF 47 ?_);refine NCall.subE [0] (ci) rfl (by decide) rfl rfl ?_))))))<;>(conv=>whnf))|((with_reducible refine gXX ?_);(first|(with_reducible first|refine st_seqX ?_|refine st_regionX ?_)|((with_reducible refine st_condX ?_);intro A B hA hB;(conv=>whnf))))|(with_reducible first|refine st_thenX ?_|refine st_thenX_panic ?_)|((with_reducible refine gRX ?_);((with_reducible refine st_retX_panic ?_)))|((with_reducible refine gFX ?_);((refine st_funcX rfl ?_);intro K hK;(conv=>whnf)))))
      all_goals exact ⟨hnum,rfl,MemFits.pre 2 rfl⟩
  · have hno:∀ u,Lib.atoiAll s≠.ok u:=fun u h=>hok ⟨u,h⟩
    have hnone:Su.num s=none:=by
      rw [hnum]
      split
      · rename_i u hu
        exact (hno u hu).elim
      · rfl
    have ca:NCall Tryd.prog 57 [.str s] [hpB F] fun r m=>∃ v t p,(-9223372036854775808≤v∧v≤9223372036854775807)∧r = .tup [.int .i64 v,.ifc t (.raw p)]∧m=[hpB F]:=ca.mono fun r m ⟨⟨v',x,h1,h2,h3,h4⟩,h5⟩=>by
      rcases h4 with ⟨h4,h6⟩ | ⟨h4,t,p,h6⟩
      · exact (hno _ h4).elim
      · exact ⟨v',t,p,⟨h2,h3⟩,by rw [h1,h6],h5⟩
    (repeat' (first|(with_reducible first|(refine hK _ _ ?_;clear hP hK Kp K)|(refine hP _ _ ?_;clear hP hK Kp K))|(with_reducible first|(refine hA ?_;clear hA hB A B)|(refine hK _ ?_;clear hK K))|((with_reducible refine gOX ?_);(first|((with_reducible first|refine st_opX ?_|refine st_opXg ?_);intro K Kp hK hP;(conv=>whnf))|(with_reducible refine st_nilX ?_)))|((first|((with_reducible refine gI ?_);(((with_reducible refine NIf.yes ?s ?_);case s=>rfl)))|((with_reducible refine gCX ?_);(first|((with_reducible refine NCallX.isF 42 ?_);refine NCallX.subw [1] _ _ (cf) rfl (by decide) rfl ?_ ?_;((rintro _ _ ⟨⟩)<;>refine ⟨Nat.le_of_ble_eq_true rfl,_,rfl,?_⟩);rotate_right;((rintro _ _ ⟨rfl,rfl⟩)<;>refine ⟨Nat.le_of_ble_eq_true rfl,?_⟩))|(refine NCallX.of ?_;(((with_reducible refine NCall.isF 57 ?_);refine NCall.subw [0] _ _ (ca) rfl (by decide) rfl ?_;rintro _ _ ⟨v,t,p,hv,rfl,rfl⟩;refine ⟨Nat.le_of_ble_eq_true rfl,_,rfl,?_⟩))))))<;>(conv=>whnf))|((with_reducible refine gXX ?_);(first|(with_reducible first|refine st_seqX ?_|refine st_regionX ?_)|((with_reducible refine st_condX ?_);intro A B hA hB;(conv=>whnf))))|(with_reducible first|refine st_thenX ?_|refine st_thenX_panic ?_)|((with_reducible refine gRX ?_);((with_reducible refine st_retX_panic ?_)))|((with_reducible refine gFX ?_);((refine st_funcX rfl ?_);intro K hK;(conv=>whnf)))))
    all_goals exact ⟨hnone,rfl,MemFits.pre 2 rfl⟩
namespace Su
abbrev strs (F:Heap) (v:Value) (p:List (List UInt8)):Prop:=RowF F 1 (fun x us=>us=strV x) v p
theorem all_take {α:Type} (f:List UInt8→Option α):∀ (p:List (List UInt8)) (xs:List α),all f p=some xs→xs.length=p.length
  | [],xs,h=>by rw [all] at h;cases h;rfl
  | x::r,xs,h=>by
    rw [all] at h
    cases hx:f x with
    | none=>rw [hx] at h;cases h
    | some a =>
      rw [hx] at h
      cases hr:all f r with
      | none=>rw [hr] at h;cases h
      | some l =>
        rw [hr] at h
        cases h
        simp [all_take f r l hr]
theorem all_step {α:Type} {f:List UInt8→Option α}:∀ (p:List (List UInt8)) (i:Nat) (h:i<p.length) (xs:List α),all f (p.take i)=some xs →
    (f p[i]=none→all f p=none)∧(∀ a,f p[i]=some a→all f (p.take (i+1))=some (xs++[a]))
  | [],i,h,_,_=>by simp at h
  | x::r,0,h,xs,hx=>by
    rw [List.take_zero,all] at hx
    cases hx
    refine ⟨fun h=>?_,fun a h=>?_⟩
    · have h:f x=none:=h
      rw [all,h]
    · have h:f x=some a:=h
      rw [List.take_succ_cons,List.take_zero,all,h,all];rfl
  | x::r,i+1,h,xs,hx=>by
    rw [List.take_succ_cons,all] at hx
    cases hf:f x with
    | none=>rw [hf] at hx;cases hx
    | some b =>
      rw [hf] at hx
      cases hr:all f (r.take i) with
      | none=>rw [hr] at hx;cases hx
      | some l =>
        rw [hr] at hx
        cases hx
        obtain ⟨h1,h2⟩:=all_step r i (by simpa using h) l hr
        refine ⟨fun h=>?_,fun a h=>?_⟩
        · rw [all,hf,h1 h]
        · rw [List.take_succ_cons,all,hf,h2 a h];rfl
def intV (x:Int):List Value:=[.int .i64 x]
def intAV (l:List Int):List AV:=l.map (.int .i64)
theorem intAV_den (l:List Int):denL (intAV l)=l.flatMap intV:=by
  induction l with
  | nil=>rfl
  | cons c l ih=>simp only [intAV,List.map_cons,denL,AV.den,List.flatMap_cons,intV] at *;rw [ih];rfl
abbrev Ints (F:Heap) (v:Value) (l:List Int):Prop:=RowF F 1 (fun x us=>us=intV x) v l
end Su
def Su.GotInts (F:Heap) (b:Nat) (tx:List UInt8) (no:Nat) (q:Su.I (List Int)) (r:AV) (m:List Blk):Prop :=
  (q = .no∧∃ G,F.le G∧r = .tup [.hs (.slice none 0 0) 0,.bool false]∧m=[hpB G,Su.rB b tx no]) ∨
  (∃ xs t2 G v,q = .ok xs (Su.sp 10 t2)∧t2.length<tx.length∧F.le G∧Su.Ints G v xs∧r = .tup [.hs v xs.length,.bool true]∧m=[hpB G,Su.rB b t2 (no+1)])
theorem ints40_c (F:Heap) (hT:TabF F) (hE:ErrF F) (b:Nat) (tx:List UInt8) (hs:tx.length≤1000000) (no:Nat) (hno:no≤100000000) (w:List UInt8) (many:Int) (mo:Option Nat) (hmo:(many<0∧mo=none)∨(0≤many∧many≤100∧mo=some many.toNat)) :
    NCallX Tryd.prog 40 [.ptr 1 ⟨b,0,none⟩ 0,.str w,.int .i64 many] [hpB F,Su.rB b tx no] (Su.GotInts F b tx no (Su.ints w mo (Su.sp 10 tx)))
      fun ch m=>Su.ints w mo (Su.sp 10 tx) = .bad∧ch=Su.wrong no∧∃ G t2,F.le G∧m=[hpB G,Su.rB b t2 no]:=by
  refine NCallX.know (K:=fun r m=>(Su.ints w mo (Su.sp 10 tx) = .no∧∃ G,F.le G∧r.den=(AV.tup [.hs (.slice none 0 0) 0,.bool false]).den∧MemFits m [hpB G,Su.rB b tx no]) ∨
    (∃ xs t2 G v,Su.ints w mo (Su.sp 10 tx) = .ok xs (Su.sp 10 t2)∧t2.length<tx.length∧F.le G∧r.den=(AV.tup [.raw (slOf v),.bool true]).den∧MemFits m [hpB G,⟨addrOf v,Su.intAV xs,.row v 3 1 xs.length⟩,Su.rB b t2 (no+1)]))
    (Kp:=fun ch m=>Su.ints w mo (Su.sp 10 tx) = .bad∧ch=Su.wrong no∧∃ G t2,F.le G∧MemFits m [hpB G,Su.rB b t2 no]) ?_ (fun r m' hq ⟨w0,hw0⟩=>?_) (fun ch m' hq=>?_)
  rotate_left
  · rcases hq with ⟨h1,G,h2,h3,h4⟩ | ⟨xs,t2,G,v,h1,h2,h3,h4,h5⟩
    · exact ⟨_,_,h3.symm,h4,.inl ⟨h1,G,h2,rfl,rfl⟩⟩
    · have hok:=((h5 w0 hw0).1.row (List.mem_cons_of_mem _ (List.mem_cons_self ..))).1
      have hrow:=rowF_new (F:=G) (sz:=1) (enc:=Su.intV) hok (Su.intAV_den xs) (fun x _=>rfl)
      refine ⟨.tup [.hs v xs.length,.bool true],_,?_,h5.trans (MemFits.freeze (m:=[Su.rB b t2 (no+1)])),.inr ⟨xs,t2,_,v,h1,h2,h3.trans addF.old,hrow,rfl,rfl⟩⟩
      rw [h4];rfl
  · obtain ⟨h1,h2,G,t2,h3,h4⟩:=hq
    exact ⟨_,h4,h1,h2,G,t2,h3,rfl⟩
  have cl:=line40_c F b tx (by omega) no w
  have hspec:Su.ints w mo (Su.sp 10 tx)=match Su.cut w (Su.sp 10 tx) with
    | none=>.no
    | some (p,r)=>if mo.all (fun m=>decide (p.length=m))=true then (match Su.all Su.num p with
        | none=>.bad
        | some xs=>.ok xs r) else .bad:=by
    unfold Su.ints
    cases Su.cut w (Su.sp 10 tx) with
    | none=>rfl
    | some pr=>obtain ⟨p,r⟩:=pr;dsimp only;cases Su.all Su.num p<;>rfl
  generalize Su.ints w mo (Su.sp 10 tx)=res at *
  unfold Su.Line at cl
  cases hc:Su.cut w (Su.sp 10 tx) with
  | none =>
    rw [hc] at cl hspec
    have cl:=cl.mono fun r m h=>show ∃ G,F.le G∧r = .tup [.hs (.slice none 0 0) 0,.bool false]∧m=[hpB G,Su.rB b tx no] from by
      rcases h with ⟨_,h⟩ | ⟨_,_,_,_,h,_⟩
      · exact h
      · cases h
    unfold Su.rB at cl ⊢
    refine ncallx_of Tryd.func40 rfl (by decide) ?_
    (repeat' (first|(with_reducible first|(refine hK _ _ ?_;clear hP hK Kp K)|(refine hA ?_;clear hA hB A B)|(refine hK _ ?_;clear hK K))|((with_reducible refine st_opX ?_);intro K Kp hK hP;(conv=>whnf))|(with_reducible refine st_nilX ?_)|((first|with_reducible refine NIf.not_ ?_|((with_reducible refine NIf.no ?s ?_);case s=>rfl)|((with_reducible refine gCX ?_);(refine NCallX.of ?_;((with_reducible refine NCall.isF 49 ?_);refine NCall.subw [0,1] _ _ (cl) rfl (by decide) rfl ?_;rintro _ _ ⟨G,h1,rfl,rfl⟩;refine ⟨Nat.le_of_ble_eq_true rfl,_,rfl,?_⟩))))<;>(conv=>whnf))|(with_reducible first|refine st_seqX ?_|refine st_regionX ?_|refine st_retX ?_)|((with_reducible refine st_condX ?_);intro A B hA hB;(conv=>whnf))|(with_reducible first|refine st_thenX ?_|refine st_thenX_ret ?_)|((with_reducible refine gRX ?_);(refine st_retX_ret rfl ?_;intro K hK;(conv=>whnf)))|((with_reducible refine gFX ?_);(refine st_funcX rfl ?_;intro K hK;(conv=>whnf)))))
    all_goals exact .inl ⟨hspec,G,h1,rfl,MemFits.pre 2 rfl⟩
  | some pr =>
    obtain ⟨p,ls⟩:=pr
    rw [hc] at cl hspec
    dsimp only at hspec
    have cl:=cl.mono fun r m h=>show ∃ t2 G v,ls=Su.sp 10 t2∧t2.length<tx.length∧F.le G∧Su.strs G v p∧SlOk v p.length∧r = .tup [.hs v p.length,.bool true]∧m=[hpB G,Su.rB b t2 no] from by
      rcases h with ⟨h,_⟩ | ⟨p',t2,G,v,h1,h2,h3,h4,h5,h6⟩
      · cases h
      · cases h1;exact ⟨t2,G,v,rfl,h2,h3,h4,h4.ok,h5,h6⟩
    have cf:=fun t2=>fail40_c b t2 no
    have hpl:p.length≤tx.length+1∧∀ x∈p,x.length≤tx.length:=by
      have hc2:=hc
      unfold Su.cut at hc2
      split at hc2
      · rename_i x y r e
        have hxm:x∈Su.sp 10 tx:=by rw [e];exact List.mem_cons_self ..
        have h1:=Su.sp_sub 10 tx x hxm
        have h2:=Su.sp_len 32 x
        split at hc2
        · cases hc2
          refine ⟨by rw [List.length_tail];omega,fun z hz=>?_⟩
          have:=Su.sp_sub 32 x z (List.mem_of_mem_tail hz)
          omega
        · cases hc2
      · cases hc2
    obtain ⟨hpl,hpx⟩:=hpl
    by_cases hm:mo.all (fun m=>decide (p.length=m))=true
    · rw [if_pos hm] at hspec
      have hmany:many<0∨(0≤many∧many=(p.length:Int)):=by
        rcases hmo with ⟨h1,_⟩ | ⟨h1,h2,h3⟩
        · exact .inl h1
        · rw [h3] at hm
          have:p.length=many.toNat:=by simpa using hm
          exact .inr ⟨h1,by omega⟩
      unfold Su.rB at cl cf ⊢
      refine ncallx_of Tryd.func40 rfl (by decide) ?_
      have key:∀ Z:Prop,(many<0→Z)→(0≤many∧many=(p.length:Int)→Z)→Z:=fun Z h1 h2=>hmany.elim h1 h2
      refine key _ (fun hm2=>?_) (fun hm2=>?_)
      all_goals (repeat' (first|(with_reducible first|(refine hK _ _ ?_;clear hP hK Kp K)|(refine hB ?_;clear hA hB A B)|(refine hK _ ?_;clear hK K))|((with_reducible first|refine st_opX ?_|refine st_opXg ?_);intro K Kp hK hP;(conv=>whnf))|(with_reducible refine st_nilX ?_)|((first|((with_reducible refine NIf.no ?s ?_);case s=>(simp ;done))|with_reducible refine NIf.not_ ?_|((with_reducible refine NIf.decY ?s ?_);case s=>omega)|((with_reducible refine NIf.decN ?s ?_);case s=>omega)|((with_reducible refine NH.mk ?s ?_);case s=>(and_intros<;>omega))|((with_reducible refine gCX ?_);(refine NCallX.of ?_;((with_reducible refine NCall.isF 49 ?_);refine NCall.subw [0,1] _ _ (cl) rfl (by decide) rfl ?_;rintro _ _ ⟨t2,G,v,h1,h2,h3,h4,hok,rfl,rfl⟩;refine ⟨Nat.le_of_ble_eq_true rfl,_,rfl,?_⟩))))<;>(conv=>whnf))|(with_reducible first|refine st_seqX ?_|refine st_regionX ?_|refine st_blockX ?_|refine st_skipX ?_)|((with_reducible refine st_condX ?_);intro A B hA hB;(conv=>whnf))|(with_reducible refine st_thenX ?_)|((with_reducible refine gFX ?_);(refine st_funcX rfl ?_;intro K hK;(conv=>whnf)))))
      all_goals try (exfalso;omega)
      all_goals
        refine st_autoX (α:=Nat × List Int × Value) (fun (i,xs,u)=>i≤p.length∧Su.all Su.num (p.take i)=some xs∧xs.length=i) (fun (i,xs,u)=>[.keep,.keep,.keep,.keep,.keep,.keep,.keep,.keep,.keep,.keep,.set (.sl 2 u xs.length),.keep,.drop,.keep,.keep,.keep,.keep,.keep,.keep,.keep,.keep,.keep,.keep,.keep,.keep,.keep,.keep,.keep,.keep,.keep,.keep,.keep,.keep,.set (.int .i64 i),.drop,.drop,.drop,.drop,.drop,.drop,.drop,.drop,.drop,.drop,.keep,.keep,.keep,.keep,.keep,.keep,.keep,.keep]) (fun (i,xs,u)=>[.keep,.keep,.set ⟨addrOf u,Su.intAV xs,.row u 3 1 xs.length⟩]) (fun (i,xs,u)=>p.length - i) (0,[],.slice none 0 0) ⟨Nat.zero_le _,rfl,rfl⟩ ?_ ?_ ?_
        · repeat (first|exact FitsSl.nil|refine FitsSl.any ?_|refine FitsSl.cons (Fit1.int (by first | rfl | omega)) ?_|refine FitsSl.cons (Fit1.bool rfl) ?_|refine FitsSl.cons (Fit1.str rfl) ?_|refine FitsSl.cons (Fit1.same (by intro h;cases h) (by with_reducible rfl)) ?_|refine FitsSl.cons Fit1.nil_sl ?_)
        · exact MemFits.nilRow _ _ _
        (intro ⟨i,xs,u⟩ ⟨hi,hxs,hxl⟩;intro K hK;(conv=>whnf);refine hK _ _ ?_;clear hK K)
        dsimp only at hi hxs hxl ⊢
        have hnl:no≤100000000:=hno
        by_cases hlt:i<p.length
        · have e0:G.c ((addrOf v).add i) (.string ⟨p[i].toArray⟩):=RowF.get1 (f0:=fun x=>.string ⟨x.toArray⟩) h4 hlt
          obtain ⟨s1,s2⟩:=Su.all_step p i hlt xs hxs
          have cn:=number40_c G (hT.mono h3) (hE.mono h3) b t2 no p[i] (by have:=hpx p[i] (List.getElem_mem hlt);omega)
          unfold Su.rB at cn
          generalize p[i]=y at *
          (repeat' (first|(with_reducible first|(refine hK _ _ ?_;clear hP hK Kp K)|(refine hP _ _ ?_;clear hP hK Kp K))|(with_reducible (refine hA ?_;clear hA hB A B))|((with_reducible refine gOX ?_);(first|((with_reducible refine st_opX ?_);intro K Kp hK hP;(conv=>whnf))|(with_reducible refine st_nilX ?_)))|((first|((with_reducible refine gV ?_);(((with_reducible refine NV.i64 ?s ?_);case s=>omega)))|((with_reducible refine gI ?_);(((with_reducible refine NIf.decY ?s ?_);case s=>omega)))|((with_reducible refine gN ?_);(with_reducible first|refine NN.cast ?_|refine NN.a2 ?_))|((with_reducible refine gH ?_);((with_reducible refine NH.mk ?s ?_);case s=>(and_intros<;>first|with_reducible rfl|((with_reducible refine gOnes ?_);rfl)|((with_reducible refine gLen ?_);rfl)|omega)))|((with_reducible refine gCX ?_);((with_reducible refine NCallX.isF 50 ?_);refine NCallX.subw [0,1] _ _ (cn) rfl (by decide) rfl ?_ ?_;((rintro _ _ ⟨n,hn,rfl,rfl⟩)<;>refine ⟨Nat.le_of_ble_eq_true rfl,_,rfl,?_⟩);rotate_right;((rintro _ _ ⟨hn,rfl,rfl⟩)<;>refine ⟨Nat.le_of_ble_eq_true rfl,?_⟩)))|(with_reducible refine NLd.of (by with_reducible assumption) ?_))<;>(conv=>whnf))|((with_reducible refine gXX ?_);(first|(with_reducible first|refine st_seqX ?_|refine st_regionX ?_|refine st_blockX ?_|refine st_skipX ?_)|((with_reducible refine st_condX ?_);intro A B hA hB;(conv=>whnf))))|(with_reducible first|refine z9 ?_|refine st_thenX ?_|refine st_thenX_panic ?_|refine st_block_panic ?_|refine st_round_panic ?_)|((with_reducible refine gRX ?_);((with_reducible refine st_retX_panic ?_)))|((intro _;skip)<;>(conv=>whnf))))
          · exact ⟨by rw [hspec,s1 hn],rfl,G,t2,h3,MemFits.pre 2 rfl⟩
          · rename_i w2
            refine st_round (i+1,xs++[n],w2) ⟨hlt,s2 n hn,by rw [List.length_append,hxl];rfl⟩ (by dsimp only;omega) ?_ ?_
            · dsimp only
              rw [List.length_append]
              repeat (first|exact FitsSl.nil|refine FitsSl.any ?_|refine FitsSl.cons (Fit1.int (by first | rfl | omega)) ?_|refine FitsSl.cons (Fit1.bool rfl) ?_|refine FitsSl.cons (Fit1.str rfl) ?_|refine FitsSl.cons (Fit1.same (by intro h;cases h) (by with_reducible rfl)) ?_|refine FitsSl.cons (Fit1.sl rfl) ?_)
            · dsimp only
              rw [List.length_append]
              unfold Su.intAV
              rw [List.map_append]
              exact MemFits.pre 3 rfl
        · obtain rfl:i=p.length:=by omega
          rw [List.take_length] at hxs
          rw [hxs] at hspec
          dsimp only at hspec
          (repeat' (first|(with_reducible first|(refine hK _ _ ?_;clear hP hK Kp K)|(refine hB ?_;clear hA hB A B)|(refine hK _ ?_;clear hK K))|((with_reducible refine st_opX ?_);intro K Kp hK hP;(conv=>whnf))|(with_reducible refine st_nilX ?_)|((first|((with_reducible refine NV.i64 ?s ?_);case s=>omega)|((with_reducible refine NIf.decN ?s ?_);case s=>omega)|(with_reducible refine NN.a5 ?_)|((with_reducible refine NH.mk ?s ?_);case s=>(and_intros<;>first|with_reducible rfl|((with_reducible refine gOnes ?_);rfl)|((with_reducible refine gLen ?_);rfl))))<;>(conv=>whnf))|(with_reducible first|refine st_seqX ?_|refine st_regionX ?_|refine st_exitX ?_|refine st_retX ?_)|((with_reducible refine st_condX ?_);intro A B hA hB;(conv=>whnf))|(with_reducible first|refine z10 ?_|refine z19 ?_|refine st_thenX ?_|refine st_thenX_exit ?_)|((with_reducible refine gRX ?_);(refine st_retX_ret rfl ?_;intro K hK;(conv=>whnf)))))
          all_goals exact .inr ⟨xs,t2,G,u,by rw [hspec,h1],h2,h3,rfl,MemFits.pick [0,2,1] (by decide) rfl⟩
    · rw [if_neg hm] at hspec
      rcases hmo with ⟨_,h2⟩ | ⟨h1,h2,h3⟩
      · rw [h2] at hm;exact (hm rfl).elim
      · rw [h3] at hm
        have hm3:¬ p.length=many.toNat:=by simpa using hm
        have hm2:¬ (p.length:Int)=many:=by omega
        unfold Su.rB at cl cf ⊢
        refine ncallx_of Tryd.func40 rfl (by decide) ?_
        (repeat' (first|(with_reducible first|(refine hK _ _ ?_;clear hP hK Kp K)|(refine hP _ _ ?_;clear hP hK Kp K))|(with_reducible first|(refine hA ?_;clear hA hB A B)|(refine hB ?_;clear hA hB A B)|(refine hK _ ?_;clear hK K))|((with_reducible refine gOX ?_);(first|((with_reducible first|refine st_opX ?_|refine st_opXg ?_);intro K Kp hK hP;(conv=>whnf))|(with_reducible refine st_nilX ?_)))|((first|((with_reducible refine gI ?_);(first|(((with_reducible refine NIf.no ?s ?_);case s=>(simp ;done)))|with_reducible refine NIf.not_ ?_|((with_reducible refine NIf.decY ?s ?_);case s=>assumption)|((with_reducible refine NIf.decN ?s ?_);case s=>assumption)))|((with_reducible refine gH ?_);((with_reducible refine NH.mk ?s ?_);case s=>(and_intros<;>omega)))|((with_reducible refine gCX ?_);(first|((with_reducible refine NCallX.isF 42 ?_);refine NCallX.subw [1] _ _ (cf t2) rfl (by decide) rfl ?_ ?_;((rintro _ _ ⟨⟩)<;>refine ⟨Nat.le_of_ble_eq_true rfl,_,rfl,?_⟩);rotate_right;((rintro _ _ ⟨rfl,rfl⟩)<;>refine ⟨Nat.le_of_ble_eq_true rfl,?_⟩))|(refine NCallX.of ?_;(((with_reducible refine NCall.isF 49 ?_);refine NCall.subw [0,1] _ _ (cl) rfl (by decide) rfl ?_;rintro _ _ ⟨t2,G,v,g1,g2,g3,g4,hok,rfl,rfl⟩;refine ⟨Nat.le_of_ble_eq_true rfl,_,rfl,?_⟩))))))<;>(conv=>whnf))|((with_reducible refine gXX ?_);(first|(with_reducible first|refine st_seqX ?_|refine st_regionX ?_|refine st_skipX ?_)|((with_reducible refine st_condX ?_);intro A B hA hB;(conv=>whnf))))|(with_reducible first|refine st_thenX ?_|refine st_thenX_panic ?_)|((with_reducible refine gRX ?_);((with_reducible refine st_retX_panic ?_)))|((with_reducible refine gFX ?_);((refine st_funcX rfl ?_);intro K hK;(conv=>whnf)))))
        all_goals try (exfalso;omega)
        all_goals exact ⟨hspec,rfl,G,t2,g3,MemFits.pre 2 rfl⟩
theorem Su.ints_len {w:List UInt8} {m:Nat} {ls:List (List UInt8)} {xs:List Int} {r:List (List UInt8)} (h:Su.ints w (some m) ls = .ok xs r):xs.length=m:=by
  unfold Su.ints at h
  split at h
  · cases h
  · split at h
    · rename_i hm
      split at h
      · cases h
      · rename_i ys hy
        cases h
        rw [Su.all_take Su.num _ _ hy]
        simpa using hm
    · cases h
theorem must40_c (F:Heap) (hT:TabF F) (hE:ErrF F) (b:Nat) (tx:List UInt8) (hs:tx.length≤1000000) (no:Nat) (hno:no≤100000000) (w:List UInt8) (many:Int) (mo:Option Nat) (hmo:(many<0∧mo=none)∨(0≤many∧many≤100∧mo=some many.toNat)) :
    NCallX Tryd.prog 39 [.ptr 1 ⟨b,0,none⟩ 0,.str w,.int .i64 many] [hpB F,Su.rB b tx no] (fun r m=>∃ xs t2 G v,Su.must w mo (Su.sp 10 tx) no = .ok xs (Su.sp 10 t2) (no+1)∧t2.length<tx.length∧F.le G∧Su.Ints G v xs∧r = .hs v xs.length∧m=[hpB G,Su.rB b t2 (no+1)])
      fun ch m=>Su.must w mo (Su.sp 10 tx) no = .bad no∧ch=Su.wrong no∧∃ G t2,F.le G∧m=[hpB G,Su.rB b t2 no]:=by
  refine NCallX.fits (K:=fun r m=>∃ xs t2 G v,Su.must w mo (Su.sp 10 tx) no = .ok xs (Su.sp 10 t2) (no+1)∧t2.length<tx.length∧F.le G∧Su.Ints G v xs∧r.den=(AV.hs v xs.length).den∧MemFits m [hpB G,Su.rB b t2 (no+1)])
    (Kp:=fun ch m=>Su.must w mo (Su.sp 10 tx) no = .bad no∧ch=Su.wrong no∧∃ G t2,F.le G∧MemFits m [hpB G,Su.rB b t2 no]) ?_ (fun r m' ⟨xs,t2,G,v,h1,h2,h3,h4,h5,h6⟩=>⟨_,_,h5.symm,h6,xs,t2,G,v,h1,h2,h3,h4,rfl,rfl⟩) (fun ch m' ⟨h1,h2,G,t2,h3,h4⟩=>⟨_,h4,h1,h2,G,t2,h3,rfl⟩)
  have ci:=ints40_c F hT hE b tx hs no hno w many mo hmo
  have cf:=fail40_c b tx no
  unfold Su.must
  unfold Su.GotInts at ci
  generalize Su.ints w mo (Su.sp 10 tx)=q at *
  unfold Su.rB at ci cf ⊢
  refine ncallx_of Tryd.func39 rfl (by decide) ?_
  cases q with
  | no =>
    have ci:=ci.mono (K':=fun r m=>∃ G,F.le G∧r = .tup [.hs (.slice none 0 0) 0,.bool false]∧m=[hpB G,⟨⟨b,0,none⟩,[.str tx,.int .i64 no],.var 48⟩]) (Kp':=fun _ _=>False) (fun r m h=>by
      rcases h with ⟨_,h⟩ | ⟨_,_,_,_,h,_⟩
      · exact h
      · cases h) (fun ch m h=>by cases h.1)
    (repeat' (first|(with_reducible first|(refine hK _ _ ?_;clear hP hK Kp K)|(refine hP _ _ ?_;clear hP hK Kp K))|(with_reducible first|(refine hA ?_;clear hA hB A B)|(refine hK _ ?_;clear hK K))|((with_reducible refine gOX ?_);(first|((with_reducible refine st_opX ?_);intro K Kp hK hP;(conv=>whnf))|(with_reducible refine st_nilX ?_)))|((first|((with_reducible refine gI ?_);(first|with_reducible refine NIf.not_ ?_|((with_reducible refine NIf.no ?s ?_);case s=>rfl)))|((with_reducible refine gCX ?_);(first|((with_reducible refine NCallX.isF 40 ?_);refine NCallX.subw [0,1] _ _ (ci) rfl (by decide) rfl ?_ ?_;((rintro _ _ ⟨G,h1,rfl,rfl⟩)<;>refine ⟨Nat.le_of_ble_eq_true rfl,_,rfl,?_⟩);rotate_right;((rintro _ _ ⟨⟩)<;>refine ⟨Nat.le_of_ble_eq_true rfl,?_⟩))|((with_reducible refine NCallX.isF 42 ?_);refine NCallX.subw [1] _ _ (cf) rfl (by decide) rfl ?_ ?_;((rintro _ _ ⟨⟩)<;>refine ⟨Nat.le_of_ble_eq_true rfl,_,rfl,?_⟩);rotate_right;((rintro _ _ ⟨rfl,rfl⟩)<;>refine ⟨Nat.le_of_ble_eq_true rfl,?_⟩)))))<;>(conv=>whnf))|((with_reducible refine gXX ?_);(first|(with_reducible first|refine st_seqX ?_|refine st_regionX ?_)|((with_reducible refine st_condX ?_);intro A B hA hB;(conv=>whnf))))|(with_reducible first|refine st_thenX ?_|refine st_thenX_panic ?_)|((with_reducible refine gRX ?_);((with_reducible refine st_retX_panic ?_)))|((with_reducible refine gFX ?_);((refine st_funcX rfl ?_);intro K hK;(conv=>whnf)))))
    all_goals exact ⟨rfl,rfl,G,tx,h1,MemFits.pre 2 rfl⟩
  | bad =>
    have ci:=ci.mono (K':=fun _ _=>False) (Kp':=fun ch m=>ch=Su.wrong no∧∃ G t2,F.le G∧m=[hpB G,⟨⟨b,0,none⟩,[.str t2,.int .i64 no],.var 48⟩]) (fun r m h=>by
      rcases h with ⟨h,_⟩ | ⟨_,_,_,_,h,_⟩<;>cases h) (fun ch m h=>h.2)
    (repeat' (first|(with_reducible first|(refine hK _ _ ?_;clear hP hK Kp K)|(refine hP _ _ ?_;clear hP hK Kp K))|(with_reducible (refine hK _ ?_;clear hK K))|((with_reducible refine gOX ?_);(first|((with_reducible refine st_opX ?_);intro K Kp hK hP;(conv=>whnf))|(with_reducible refine st_nilX ?_)))|((((with_reducible refine gCX ?_);((with_reducible refine NCallX.isF 40 ?_);refine NCallX.subw [0,1] _ _ (ci) rfl (by decide) rfl ?_ ?_;((rintro _ _ ⟨⟩)<;>refine ⟨Nat.le_of_ble_eq_true rfl,_,rfl,?_⟩);rotate_right;((rintro _ _ ⟨rfl,G,t2,h1,rfl⟩)<;>refine ⟨Nat.le_of_ble_eq_true rfl,?_⟩))))<;>(conv=>whnf))|((with_reducible refine gXX ?_);((with_reducible first|refine st_seqX ?_|refine st_regionX ?_)))|(with_reducible first|refine st_thenX ?_|refine st_thenX_panic ?_)|((with_reducible refine gRX ?_);((with_reducible refine st_retX_panic ?_)))|((with_reducible refine gFX ?_);((refine st_funcX rfl ?_);intro K hK;(conv=>whnf)))))
    all_goals exact ⟨rfl,rfl,G,t2,h1,MemFits.pre 2 rfl⟩
  | ok xs ls =>
    have ci:=ci.mono (K':=fun r m=>∃ t2 G v,ls=Su.sp 10 t2∧t2.length<tx.length∧F.le G∧Su.Ints G v xs∧r = .tup [.hs v xs.length,.bool true]∧m=[hpB G,⟨⟨b,0,none⟩,[.str t2,.int .i64 (no+1:Nat)],.var 48⟩]) (Kp':=fun _ _=>False) (fun r m h=>by
      rcases h with ⟨h,_⟩ | ⟨_,t2,G,v,h1,h2,h3,h4,h5,h6⟩
      · cases h
      · cases h1;exact ⟨t2,G,v,rfl,h2,h3,h4,h5,h6⟩) (fun ch m h=>by cases h.1)
    (repeat' (first|(with_reducible (refine hK _ _ ?_;clear hP hK Kp K))|(with_reducible first|(refine hB ?_;clear hA hB A B)|(refine hK _ ?_;clear hK K))|((with_reducible refine gOX ?_);(first|((with_reducible refine st_opX ?_);intro K Kp hK hP;(conv=>whnf))|(with_reducible refine st_nilX ?_)))|((first|((with_reducible refine gI ?_);(first|with_reducible refine NIf.not_ ?_|((with_reducible refine NIf.yes ?s ?_);case s=>rfl)))|((with_reducible refine gCX ?_);((with_reducible refine NCallX.isF 40 ?_);refine NCallX.subw [0,1] _ _ (ci) rfl (by decide) rfl ?_ ?_;((rintro _ _ ⟨t2,G,v,h1,h2,h3,h4,rfl,rfl⟩)<;>refine ⟨Nat.le_of_ble_eq_true rfl,_,rfl,?_⟩);rotate_right;((rintro _ _ ⟨⟩)<;>refine ⟨Nat.le_of_ble_eq_true rfl,?_⟩))))<;>(conv=>whnf))|((with_reducible refine gXX ?_);(first|(with_reducible first|refine st_seqX ?_|refine st_regionX ?_|refine st_skipX ?_|refine st_retX ?_)|((with_reducible refine st_condX ?_);intro A B hA hB;(conv=>whnf))))|(with_reducible refine st_thenX ?_)|((with_reducible refine gRX ?_);(((refine st_retX_ret rfl ?_);intro K hK;(conv=>whnf))))|((with_reducible refine gFX ?_);((refine st_funcX rfl ?_);intro K hK;(conv=>whnf)))))
    all_goals exact ⟨xs,t2,G,v,by rw [h1],h2,h3,h4,rfl,MemFits.pre 2 rfl⟩
end Go.Proofs.YtgphhbadnjfbjaaDoor
