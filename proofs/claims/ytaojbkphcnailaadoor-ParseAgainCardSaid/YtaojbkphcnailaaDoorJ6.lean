import Derived.Test.YtaojbkphcnailaaDoorJ5
namespace Go.Proofs.YtaojbkphcnailaaDoor
open Go.Sx
set_option maxRecDepth 20000
set_option linter.unusedSimpArgs false
set_option linter.unusedVariables false
set_option linter.unusedVariables false
theorem lprefix_c (t:List UInt8) (ht:t.length≤10000):NCall Tryd.prog 120 [.str t,.str [58,61]] [] fun r _=>r = .bool (decide (t.take 2=[58,61])):=by
  refine ncall_of Tryd.func120 rfl (by decide) ?_
  by_cases h:2≤t.length
  · (repeat' (first|(with_reducible first|(refine hK _ _ ?_;clear hK K)|(refine hK _ ?_;clear hK K))|((with_reducible first|refine z25 ?_|refine z26 ?_);intro K hK;(conv=>whnf))|(with_reducible refine z0 ?_)|((first|((with_reducible refine NIf.decY ?s ?_);case s=>assumption)|((with_reducible refine NIf.decN ?s ?_);case s=>assumption)|(with_reducible first|refine NIf.dec (fun _=>?_) (fun _=>?_)|refine NN.cast ?_)|((with_reducible refine NH.mk ?s ?_);case s=>(and_intros<;>omega))|(with_reducible refine NS.keep ?_))<;>(conv=>whnf))|(with_reducible first|refine z3 ?_|refine z4 ?_|refine z8 ?_|refine z1 ?_|refine z2 ?_)|((with_reducible refine gR ?_);(refine z31 rfl ?_;intro K hK;(conv=>whnf)))|((with_reducible refine gF ?_);(refine z33 rfl ?_;intro K hK;(conv=>whnf)))))
    all_goals first | rfl | (exfalso;simp only [List.length_cons,List.length_nil] at *;omega)
  · have hn:t.take 2≠[58,61]:=fun e=>by
      have:=congrArg List.length e
      rw [List.length_take] at this
      simp at this
      omega
    (repeat' (first|(with_reducible first|(refine hK _ _ ?_;clear hK K)|(refine hK _ ?_;clear hK K))|((with_reducible first|refine z25 ?_|refine z26 ?_);intro K hK;(conv=>whnf))|(with_reducible refine z0 ?_)|((first|((with_reducible refine NIf.decY ?s ?_);case s=>assumption)|((with_reducible refine NIf.decN ?s ?_);case s=>assumption)|(with_reducible first|refine NIf.dec (fun _=>?_) (fun _=>?_)|refine NN.cast ?_)|((with_reducible refine NH.mk ?s ?_);case s=>(and_intros<;>omega))|(with_reducible refine NS.keep ?_))<;>(conv=>whnf))|(with_reducible first|refine z3 ?_|refine z4 ?_|refine z8 ?_|refine z1 ?_|refine z2 ?_)|((with_reducible refine gR ?_);(refine z31 rfl ?_;intro K hK;(conv=>whnf)))|((with_reducible refine gF ?_);(refine z33 rfl ?_;intro K hK;(conv=>whnf)))))
    all_goals first | exact boolF hn | (exfalso;simp only [List.length_cons,List.length_nil] at *;omega)
theorem prefix_c (t:List UInt8) (ht:t.length≤10000):NCall Tryd.prog 104 [.str t,.str [58,61]] [] fun r _=>r = .bool (decide (t.take 2=[58,61])):=by
  have h:=lprefix_c t ht
  refine ncall_of Tryd.func104 rfl (by decide) ?_
  (repeat' (first|(with_reducible first|(refine hK _ _ ?_;clear hK K)|(refine hK _ ?_;clear hK K))|((with_reducible refine z25 ?_);intro K hK;(conv=>whnf))|(with_reducible refine z0 ?_)|(((with_reducible refine NCall.isF 120 ?_);refine NCall.pureE (h) ?_)<;>(conv=>whnf))|(with_reducible first|refine z3 ?_|refine z4 ?_|refine z8 ?_|refine z1 ?_|refine z2 ?_)|((with_reducible refine gR ?_);(refine z31 rfl ?_;intro K hK;(conv=>whnf)))|((with_reducible refine gF ?_);(refine z33 rfl ?_;intro K hK;(conv=>whnf)))))
  all_goals rfl
theorem index_dec:∀ n:Nat,n<256→(0≤Lib.indexByte [40,41,59,124,61] n.toUInt8↔Lx.isS n.toUInt8=true):=by decide +kernel
theorem index_c (c:UInt8):NCall Tryd.prog 105 [.str [40,41,59,124,61],.int .u8 c.toNat] [] fun r _=>∃ j:Int,r = .int .i64 j∧(0≤j↔Lx.isS c=true):=by
  have hc:=index_dec c.toNat c.toNat_lt
  have e:c.toNat.toUInt8=c:=by simp
  rw [e] at hc
  refine (ncall_below (r:=.int .i64 (Lib.indexByte [40,41,59,124,61] c)) (Go.Sx.enters_of Tryd.func105 rfl (by decide)) fun w hw=>?_).mono fun r m h=>⟨_,h.1,hc⟩
  refine (Tryd.strings_IndexByte ⟨#[40,41,59,124,61]⟩ c.toNat w).mono fun e' w' ⟨h1,h2⟩=>?_
  subst h2
  refine ⟨?_,rfl,rfl,rfl,Nat.le_refl _,fun _ _=>rfl⟩
  rw [h1,Int.toNat_natCast,e]
  rfl
theorem drop2 (tx:List UInt8) (i:Nat):((tx.drop i).take 2=[58,61])↔(i<tx.length∧tx.getD i 0=58∧(tx.drop (i+1)).head?=some 61):=by
  by_cases h:i<tx.length
  · rw [Lx.drop_getD tx i h]
    cases hr:tx.drop (i+1) with
    | nil=>simp
    | cons d r=>simp [h]
  · rw [List.drop_eq_nil_of_le (by omega)]
    simp;omega
set_option maxHeartbeats 2000000 in
theorem next_c (a:Addr) (tx:List UInt8) (i:Nat) (hi:i<tx.length) (hs:tx.length≤10000) :
    NCall Tryd.prog 83 [.ptr 0 a 0] [LB a tx i] fun r m =>
      (∀ b n,Lx.nextB (tx.drop i)=some (b,n)→r = .tup [tokAV b.k b.n b.s i,.bool true]∧MemFits m [LB a tx (i+n)]) ∧
      (Lx.nextB (tx.drop i)=none→r = .tup [tokAV 0 0 [] i,.bool false]∧∃ j,MemFits m [LB a tx j]):=by
  have hg:=Lx.drop_getD tx i hi
  have hnb:=Lx.nextB_eq (tx.getD i 0) (tx.drop (i+1))
  rw [← hg] at hnb
  have hl:=letter_c (tx.getD i 0)
  have hd:=digit_c (tx.getD i 0)
  have hp:=prefix_c (tx.drop i) (by rw [List.length_drop];omega)
  have hx:=index_c (tx.getD i 0)
  have h2:=drop2 tx i
  refine ncall_of Tryd.func83 rfl (by decide) ?_
  unfold tokAV
  by_cases c1:Lx.isL (tx.getD i 0)=true
  · rw [if_pos c1] at hnb
    rw [c1] at hl
    have hw:=while_c 101 Lx.isL letter_c a tx i (by omega) hs
    have hwl:Lx.wl Lx.isL tx i=((tx.drop i).takeWhile Lx.isL).length:=rfl
    rw [hwl] at hw
    generalize (tx.drop i).takeWhile Lx.isL=ws at *
    (repeat' (first|(with_reducible first|(refine hK _ _ ?_;clear hK K)|(refine hA ?_;clear hA hB A B)|(refine hK _ ?_;clear hK K))|((with_reducible refine z25 ?_);intro K hK;(conv=>whnf))|(with_reducible refine z0 ?_)|((first|((with_reducible refine NIf.yes ?s ?_);case s=>rfl)|(with_reducible first|refine NN.cast ?_|refine NN.a5 ?_)|((with_reducible refine NH.mk ?s ?_);case s=>(and_intros<;>first|with_reducible rfl|((with_reducible refine gOnes ?_);rfl)|((with_reducible refine gLen ?_);rfl)|omega|rfl))|((with_reducible refine NCall.isF 101 ?_);refine NCall.pureE (hl) ?_)|((with_reducible refine NCall.isF 98 ?_);refine NCall.subE [0] (hw) rfl (by decide) rfl rfl ?_))<;>(conv=>whnf))|(with_reducible first|refine z3 ?_|refine z4 ?_|refine z5 ?_|refine z8 ?_)|((with_reducible refine z29 ?_);intro A B hA hB;(conv=>whnf))|(with_reducible first|refine z1 ?_|refine z2 ?_|refine z12 ?_|refine z13 ?_)|((with_reducible refine gR ?_);(refine z31 rfl ?_;intro K hK;(conv=>whnf)))|((with_reducible refine gF ?_);(refine z33 rfl ?_;intro K hK;(conv=>whnf)))|((intro _;skip)<;>(conv=>whnf))))
    all_goals first
      | exact ⟨fun b n e=>by rw [hnb] at e;injection e with e;injection e with e1 e2;subst e1 e2;exact ⟨rfl,MemFits.drop [_] [_]⟩,fun e=>by rw [hnb] at e;cases e⟩
      | skip
  rw [if_neg c1] at hnb
  rw [show Lx.isL (tx.getD i 0)=false by simpa using c1] at hl
  by_cases c2:Lx.isD (tx.getD i 0)=true
  · rw [if_pos c2] at hnb
    rw [c2] at hd
    have hne:(tx.drop i).takeWhile Lx.isD≠[]:=by rw [hg,List.takeWhile_cons_of_pos c2];simp
    have h0:((tx.drop i).takeWhile Lx.isD).getD 0 0=tx.getD i 0:=by rw [hg,List.takeWhile_cons_of_pos c2];rfl
    have hw:NCall Tryd.prog 103 [.ptr 0 a 0] [LB a tx i] fun r m=>r = .tup [if Lx.numOk ((tx.drop i).takeWhile Lx.isD) then tokAV 2 (Lx.num ((tx.drop i).takeWhile Lx.isD)) [] i else tokAV 0 0 [] i,.bool (decide (Lx.numOk ((tx.drop i).takeWhile Lx.isD)))]∧m=[LB a tx (i+((tx.drop i).takeWhile Lx.isD).length)] :=
      (number_c a tx i (by omega) hs _ rfl hne).fits fun r m h=>⟨r,_,rfl,h.2,h.1,rfl⟩
    have hok:Lx.numOk ((tx.drop i).takeWhile Lx.isD)↔¬ (3<((tx.drop i).takeWhile Lx.isD).length∨(1<((tx.drop i).takeWhile Lx.isD).length∧tx.getD i 0=48)):=by unfold Lx.numOk;rw [h0]
    generalize (tx.drop i).takeWhile Lx.isD=ds at *
    by_cases hk:Lx.numOk ds
    · rw [if_neg (hok.1 hk)] at hnb
      rw [if_pos hk,decide_eq_true hk] at hw
      unfold tokAV at hw
      (repeat' (first|(with_reducible first|(refine hK _ _ ?_;clear hK K)|(refine hA ?_;clear hA hB A B)|(refine hB ?_;clear hA hB A B)|(refine hK _ ?_;clear hK K))|((with_reducible refine z25 ?_);intro K hK;(conv=>whnf))|(with_reducible refine z0 ?_)|((first|((with_reducible refine NIf.yes ?s ?_);case s=>rfl)|((with_reducible refine NIf.no ?s ?_);case s=>rfl)|(with_reducible first|refine NN.cast ?_|refine NN.a5 ?_)|((with_reducible refine NH.mk ?s ?_);case s=>(and_intros<;>first|with_reducible rfl|((with_reducible refine gOnes ?_);rfl)|((with_reducible refine gLen ?_);rfl)|omega|rfl))|((with_reducible refine NCall.isF 101 ?_);refine NCall.pureE (hl) ?_)|((with_reducible refine NCall.isF 102 ?_);refine NCall.pureE (hd) ?_)|((with_reducible refine NCall.isF 103 ?_);refine NCall.subE [0] (hw) rfl (by decide) rfl rfl ?_))<;>(conv=>whnf))|(with_reducible first|refine z3 ?_|refine z4 ?_|refine z5 ?_|refine z8 ?_)|((with_reducible refine z29 ?_);intro A B hA hB;(conv=>whnf))|(with_reducible first|refine z1 ?_|refine z2 ?_|refine z12 ?_|refine z13 ?_)|((with_reducible refine gR ?_);(refine z31 rfl ?_;intro K hK;(conv=>whnf)))|((with_reducible refine gF ?_);(refine z33 rfl ?_;intro K hK;(conv=>whnf)))|((intro _;skip)<;>(conv=>whnf))))
      all_goals first
        | exact ⟨fun b n e=>by rw [hnb] at e;injection e with e;injection e with e1 e2;subst e1 e2;exact ⟨rfl,MemFits.drop [_] [_]⟩,fun e=>by rw [hnb] at e;cases e⟩
        | skip
    · rw [if_pos (Decidable.not_not.1 fun q=>hk (hok.2 q))] at hnb
      rw [if_neg hk,decide_eq_false hk] at hw
      unfold tokAV at hw
      (repeat' (first|(with_reducible first|(refine hK _ _ ?_;clear hK K)|(refine hA ?_;clear hA hB A B)|(refine hB ?_;clear hA hB A B)|(refine hK _ ?_;clear hK K))|((with_reducible refine z25 ?_);intro K hK;(conv=>whnf))|(with_reducible refine z0 ?_)|((first|((with_reducible refine NIf.yes ?s ?_);case s=>rfl)|((with_reducible refine NIf.no ?s ?_);case s=>rfl)|(with_reducible first|refine NN.cast ?_|refine NN.a5 ?_)|((with_reducible refine NH.mk ?s ?_);case s=>(and_intros<;>first|with_reducible rfl|((with_reducible refine gOnes ?_);rfl)|((with_reducible refine gLen ?_);rfl)|omega|rfl))|((with_reducible refine NCall.isF 101 ?_);refine NCall.pureE (hl) ?_)|((with_reducible refine NCall.isF 102 ?_);refine NCall.pureE (hd) ?_)|((with_reducible refine NCall.isF 103 ?_);refine NCall.subE [0] (hw) rfl (by decide) rfl rfl ?_))<;>(conv=>whnf))|(with_reducible first|refine z3 ?_|refine z4 ?_|refine z5 ?_|refine z8 ?_)|((with_reducible refine z29 ?_);intro A B hA hB;(conv=>whnf))|(with_reducible first|refine z1 ?_|refine z2 ?_|refine z12 ?_|refine z13 ?_)|((with_reducible refine gR ?_);(refine z31 rfl ?_;intro K hK;(conv=>whnf)))|((with_reducible refine gF ?_);(refine z33 rfl ?_;intro K hK;(conv=>whnf)))|((intro _;skip)<;>(conv=>whnf))))
      all_goals first
        | exact ⟨fun b n e=>(by rw [hnb] at e;cases e),fun _=>⟨rfl,i+ds.length,MemFits.drop [_] [_]⟩⟩
        | skip
  rw [if_neg c2] at hnb
  rw [show Lx.isD (tx.getD i 0)=false by simpa using c2] at hd
  by_cases c3:(tx.drop i).take 2=[58,61]
  · have c3':=(h2.1 c3).2
    rw [if_pos c3'] at hnb
    rw [decide_eq_true c3] at hp
    (repeat' (first|(with_reducible first|(refine hK _ _ ?_;clear hK K)|(refine hA ?_;clear hA hB A B)|(refine hB ?_;clear hA hB A B)|(refine hK _ ?_;clear hK K))|((with_reducible refine z25 ?_);intro K hK;(conv=>whnf))|(with_reducible refine z0 ?_)|((first|((with_reducible refine NV.i64 ?s ?_);case s=>omega)|((with_reducible refine NIf.yes ?s ?_);case s=>rfl)|((with_reducible refine NIf.no ?s ?_);case s=>rfl)|(with_reducible first|refine NN.cast ?_|refine NN.a5 ?_)|((with_reducible refine NH.mk ?s ?_);case s=>(and_intros<;>first|with_reducible rfl|((with_reducible refine gOnes ?_);rfl)|((with_reducible refine gLen ?_);rfl)|omega|rfl))|((with_reducible refine NCall.isF 101 ?_);refine NCall.pureE (hl) ?_)|((with_reducible refine NCall.isF 102 ?_);refine NCall.pureE (hd) ?_)|((with_reducible refine NCall.isF 104 ?_);refine NCall.pureE (hp) ?_)|(with_reducible refine NS.keep ?_))<;>(conv=>whnf))|(with_reducible first|refine z3 ?_|refine z4 ?_|refine z5 ?_|refine z8 ?_)|((with_reducible refine z29 ?_);intro A B hA hB;(conv=>whnf))|(with_reducible first|refine z1 ?_|refine z2 ?_|refine z12 ?_|refine z13 ?_)|((with_reducible refine gR ?_);(refine z31 rfl ?_;intro K hK;(conv=>whnf)))|((with_reducible refine gF ?_);(refine z33 rfl ?_;intro K hK;(conv=>whnf)))|((intro _;skip)<;>(conv=>whnf))))
    all_goals first
      | exact ⟨fun b n e=>by rw [hnb] at e;injection e with e;injection e with e1 e2;subst e1 e2;exact ⟨rfl,MemFits.drop [_] [_]⟩,fun e=>by rw [hnb] at e;cases e⟩
      | skip
  have c3':¬ (tx.getD i 0=58∧(tx.drop (i+1)).head?=some 61):=fun e=>c3 (h2.2 ⟨hi,e⟩)
  rw [if_neg c3'] at hnb
  rw [decide_eq_false c3] at hp
  by_cases c4:Lx.isS (tx.getD i 0)=true
  · rw [if_pos c4] at hnb
    (repeat' (first|(with_reducible first|(refine hK _ _ ?_;clear hK K)|(refine hA ?_;clear hA hB A B)|(refine hB ?_;clear hA hB A B)|(refine hK _ ?_;clear hK K))|((with_reducible refine z25 ?_);intro K hK;(conv=>whnf))|(with_reducible refine z0 ?_)|((first|((with_reducible refine NV.i64 ?s ?_);case s=>omega)|((with_reducible refine NIf.no ?s ?_);case s=>rfl)|(with_reducible first|refine NIf.dec (fun _=>?_) (fun _=>?_)|refine NN.cast ?_|refine NN.a5 ?_)|((with_reducible refine NH.mk ?s ?_);case s=>(and_intros<;>first|with_reducible rfl|((with_reducible refine gOnes ?_);rfl)|((with_reducible refine gLen ?_);rfl)|omega|rfl))|((with_reducible refine NCall.isF 101 ?_);refine NCall.pureE (hl) ?_)|((with_reducible refine NCall.isF 102 ?_);refine NCall.pureE (hd) ?_)|((with_reducible refine NCall.isF 104 ?_);refine NCall.pureE (hp) ?_)|((with_reducible refine NCall.isF 105 ?_);refine NCall.pure (hx) ?_;rintro _ _ ⟨j,rfl,hj⟩;refine ⟨_,rfl,?_⟩)|(with_reducible refine NS.keep ?_))<;>(conv=>whnf))|(refine NBytes.mk [tx.getD i 0] rfl ?_;conv=>whnf)|(with_reducible first|refine z3 ?_|refine z4 ?_|refine z5 ?_|refine z6 ?_|refine z8 ?_)|((with_reducible refine z29 ?_);intro A B hA hB;(conv=>whnf))|(with_reducible first|refine z1 ?_|refine z2 ?_|refine z9 ?_|refine z12 ?_|refine z13 ?_)|((with_reducible refine gR ?_);(refine z31 rfl ?_;intro K hK;(conv=>whnf)))|((with_reducible refine gF ?_);(refine z33 rfl ?_;intro K hK;(conv=>whnf)))|((intro _;skip)<;>(conv=>whnf))))
    all_goals first
      | (exfalso;have:=hj.2 c4;omega)
      | exact ⟨fun b n e=>by rw [hnb] at e;injection e with e;injection e with e1 e2;subst e1 e2;exact ⟨rfl,MemFits.pre 1 rfl⟩,fun e=>by rw [hnb] at e;cases e⟩
      | skip
  · rw [if_neg c4] at hnb
    (repeat' (first|(with_reducible first|(refine hK _ _ ?_;clear hK K)|(refine hA ?_;clear hA hB A B)|(refine hB ?_;clear hA hB A B)|(refine hK _ ?_;clear hK K))|((with_reducible refine z25 ?_);intro K hK;(conv=>whnf))|(with_reducible refine z0 ?_)|((first|((with_reducible refine NV.i64 ?s ?_);case s=>omega)|((with_reducible refine NIf.no ?s ?_);case s=>rfl)|(with_reducible first|refine NIf.dec (fun _=>?_) (fun _=>?_)|refine NN.cast ?_|refine NN.a5 ?_)|((with_reducible refine NH.mk ?s ?_);case s=>(and_intros<;>first|with_reducible rfl|((with_reducible refine gOnes ?_);rfl)|((with_reducible refine gLen ?_);rfl)|omega|rfl))|((with_reducible refine NCall.isF 101 ?_);refine NCall.pureE (hl) ?_)|((with_reducible refine NCall.isF 102 ?_);refine NCall.pureE (hd) ?_)|((with_reducible refine NCall.isF 104 ?_);refine NCall.pureE (hp) ?_)|((with_reducible refine NCall.isF 105 ?_);refine NCall.pure (hx) ?_;rintro _ _ ⟨j,rfl,hj⟩;refine ⟨_,rfl,?_⟩)|(with_reducible refine NS.keep ?_))<;>(conv=>whnf))|(refine NBytes.mk [tx.getD i 0] rfl ?_;conv=>whnf)|(with_reducible first|refine z3 ?_|refine z4 ?_|refine z5 ?_|refine z6 ?_|refine z8 ?_)|((with_reducible refine z29 ?_);intro A B hA hB;(conv=>whnf))|(with_reducible first|refine z1 ?_|refine z2 ?_|refine z9 ?_|refine z12 ?_|refine z13 ?_)|((with_reducible refine gR ?_);(refine z31 rfl ?_;intro K hK;(conv=>whnf)))|((with_reducible refine gF ?_);(refine z33 rfl ?_;intro K hK;(conv=>whnf)))|((intro _;skip)<;>(conv=>whnf))))
    all_goals first
      | (exfalso;exact c4 (hj.1 (by omega)))
      | exact ⟨fun b n e=>(by rw [hnb] at e;cases e),fun _=>⟨rfl,i,MemFits.drop [_] [_]⟩⟩
      | skip
end Go.Proofs.YtaojbkphcnailaaDoor
namespace Go.Proofs.YtaojbkphcnailaaDoor
open Go.Sx
set_option maxRecDepth 20000
set_option linter.unusedSimpArgs false
set_option linter.unusedVariables false
set_option linter.unusedVariables false
namespace Lx
structure T where
  k:Int
  n:Int
  s:List UInt8
  at_:Int
def tokV (x:T):List Value:=[.int .i64 x.k,.int .i64 x.n,.string ⟨x.s.toArray⟩,.int .i64 x.at_]
def tokC (x:T):List AV:=[.int .i64 x.k,.int .i64 x.n,.str x.s,.int .i64 x.at_]
theorem tokC_den (l:List T):denL (l.flatMap tokC)=l.flatMap tokV:=by
  induction l with
  | nil=>rfl
  | cons x l ih=>simp only [List.flatMap_cons,denL_append,ih];rfl
theorem tokC_len (l:List T):(l.flatMap tokC).length=l.length*4:=by
  induction l with
  | nil=>rfl
  | cons x l ih=>simp only [List.flatMap_cons,List.length_append,ih,List.length_cons];simp [tokC];omega
def tokAt (tx:List UInt8) (x:B × List UInt8):T:=⟨x.1.k,x.1.n,x.1.s,tx.length - x.2.length⟩
def res (tx:List UInt8) (L:List (B × List UInt8)):List T:=L.map (tokAt tx)++[⟨4,0,[],tx.length⟩]
def good (tx:List UInt8):Prop:=∃ L,toks tx=some L∧L.length≤500
theorem drop_sk (tx:List UInt8) (i:Nat) (hi:i≤tx.length):tx.drop (sk tx i)=skip (tx.drop i)∧i≤sk tx i∧sk tx i≤tx.length:=by
  have hl:=skip_len (tx.drop i).length (tx.drop i) (Nat.le_refl _)
  rw [List.length_drop] at hl
  unfold sk
  refine ⟨?_,by omega,by omega⟩
  by_cases h:skip (tx.drop i)=[]
  · rw [h];simp
  · obtain ⟨b,hb,_⟩:=skip_split (tx.drop i).length (tx.drop i) (Nat.le_refl _) h
    have e:=congrArg List.length hb
    rw [List.length_drop,List.length_append] at e
    generalize skip (tx.drop i)=q at *
    have:tx=tx.take i++(b++q):=by rw [← hb];simp
    have hp:tx.length - q.length=(tx.take i++b).length:=by rw [List.length_append,List.length_take];omega
    rw [hp,this]
    have e2:(List.take i (List.take i tx++(b++q))++b)=List.take i tx++b:=by
      rw [List.take_append_of_le_length (by rw [List.length_take];omega),List.take_take,Nat.min_self]
    rw [e2,← List.append_assoc,List.drop_left]
structure St (tx:List UInt8) (i:Nat) (out:List T):Prop where
  le:i≤tx.length
  few:out.length≤500
  is:∃ pre,out=pre.map (tokAt tx)∧toks tx=(toks (tx.drop i)).map (pre++·)
theorem St.begin (tx:List UInt8):St tx 0 []:=⟨Nat.zero_le _,Nat.zero_le _,[],rfl,by simp⟩
theorem St.done {tx:List UInt8} {i:Nat} {out:List T} (h:St tx i out) (e:sk tx i=tx.length):∃ L,toks tx=some L∧L.length≤500∧out++[⟨4,0,[],tx.length⟩]=res tx L:=by
  obtain ⟨pre,h1,h2⟩:=h.is
  have hd:=(drop_sk tx i h.le).1
  rw [e,List.drop_length] at hd
  rw [toks_nil hd.symm] at h2
  refine ⟨pre,by rw [h2];simp,?_,by rw [h1];rfl⟩
  have:=h.few
  rw [h1,List.length_map] at this
  exact this
theorem St.bad {tx:List UInt8} {i:Nat} {out:List T} (h:St tx i out) (e:sk tx i<tx.length) (hn:nextB (tx.drop (sk tx i))=none):¬ good tx:=by
  obtain ⟨pre,h1,h2⟩:=h.is
  have hd:=(drop_sk tx i h.le).1
  rw [hd] at hn
  have hne:skip (tx.drop i)≠[]:=by
    rw [← hd];intro e2
    have:=congrArg List.length e2
    rw [List.length_drop] at this
    simp at this;omega
  rw [toks_none hne hn] at h2
  rintro ⟨L,h3,_⟩
  rw [h2] at h3;cases h3
theorem St.next {tx:List UInt8} {i:Nat} {out:List T} (h:St tx i out) (e:sk tx i<tx.length) {b:B} {n:Nat} (hn:nextB (tx.drop (sk tx i))=some (b,n)) :
    i<sk tx i+n∧sk tx i+n≤tx.length∧(out.length<500→St tx (sk tx i+n) (out++[⟨b.k,b.n,b.s,sk tx i⟩]))∧(out.length=500→¬ good tx):=by
  obtain ⟨pre,h1,h2⟩:=h.is
  obtain ⟨hd,hle,hle2⟩:=drop_sk tx i h.le
  have hp:=nextB_pos hn
  rw [List.length_drop] at hp
  rw [hd] at hn
  have hne:skip (tx.drop i)≠[]:=by
    rw [← hd];intro e2
    have:=congrArg List.length e2
    rw [List.length_drop] at this
    simp at this;omega
  rw [toks_cons hne hn,Option.map_map] at h2
  have hdr:(skip (tx.drop i)).drop n=tx.drop (sk tx i+n):=by rw [← hd,List.drop_drop]
  rw [hdr] at h2
  refine ⟨by omega,by omega,fun hl=>⟨by omega,by simp;omega,pre++[(b,skip (tx.drop i))],?_,?_⟩,fun hl=>?_⟩
  · rw [h1,List.map_append]
    congr 1
    have:((tx.length:Int) - (skip (tx.drop i)).length)=(sk tx i:Nat):=by
      have:(skip (tx.drop i)).length=tx.length - sk tx i:=by rw [← hd,List.length_drop]
      omega
    simp only [List.map_cons,List.map_nil,tokAt,this]
  · rw [h2]
    congr 1
    funext q
    simp
  · rintro ⟨L,h3,h4⟩
    rw [h2] at h3
    obtain ⟨q,_,rfl⟩:=Option.map_eq_some_iff.1 h3
    rw [h1,List.length_map] at hl
    simp at h4;omega
end Lx
def LexRaw (F:Heap) (tx:List UInt8) (r:AV) (m:List Blk):Prop :=
  (∃ L v,Lx.toks tx=some L∧L.length≤500∧MemFits m [hpB F,⟨addrOf v,(Lx.res tx L).flatMap Lx.tokC,.row v 94 4 (L.length+1)⟩]∧r.den=(AV.tup [.sl 1 v (L.length+1),.int .i64 0,.int .i64 0]).den) ∨
  (¬ Lx.good tx∧∃ at_ e:Int,e≠0∧MemFits m [hpB F]∧r = .tup [.raw (.slice none 0 0),.int .i64 at_,.int .i64 e])
set_option maxHeartbeats 2000000 in
theorem lex_raw (F:Heap) (tx:List UInt8) (hs:tx.length≤4000):NCall Tryd.prog 55 [.str tx] [hpB F] (LexRaw F tx):=by
  refine ncall_of Tryd.func55 rfl (by decide) ?_
  (repeat' (first|(with_reducible first|(refine hK _ _ ?_;clear hK K)|(refine hB ?_;clear hA hB A B)|(refine hK _ ?_;clear hK K))|((with_reducible refine z25 ?_);intro K hK;(conv=>whnf))|(with_reducible refine z0 ?_)|(((with_reducible refine NIf.decN ?s ?_);case s=>omega)<;>(conv=>whnf))|(with_reducible first|refine z3 ?_|refine z4 ?_|refine z5 ?_|refine z6 ?_)|((with_reducible refine z29 ?_);intro A B hA hB;(conv=>whnf))|(with_reducible first|refine z1 ?_|refine z2 ?_)|((with_reducible refine gF ?_);(refine z33 rfl ?_;intro K hK;(conv=>whnf)))|((intro _;skip)<;>(conv=>whnf))))
  rename_i b0
  refine st_auto (α:=Nat × List Lx.T × Value) (fun x=>Lx.St tx x.1 x.2.1) (fun x=>[.keep,.keep,.drop,.drop,.drop,.keep,.set (.sl 2 x.2.2 x.2.1.length),.drop,.drop,.keep,.keep,.keep,.keep,.keep,.keep,.drop,.drop,.drop,.drop,.drop,.drop,.drop,.drop,.drop,.drop,.drop,.drop,.drop,.drop,.drop,.drop,.drop,.drop,.drop,.drop,.drop,.drop,.drop,.drop,.drop,.drop,.drop,.drop,.drop,.drop,.drop,.drop,.drop,.drop,.drop,.drop,.drop]) (fun x=>[.keep,.set (LB ⟨b0,0,none⟩ tx x.1),.set ⟨addrOf x.2.2,x.2.1.flatMap Lx.tokC,.row x.2.2 94 4 x.2.1.length⟩]) (fun x=>tx.length - x.1) (0,[],.slice none 0 0) (Lx.St.begin tx) ?_ (MemFits.nilRow _ _ _) ?_
  · repeat (first|exact FitsSl.nil|refine FitsSl.any ?_|refine FitsSl.cons (Fit1.int (by first | rfl | omega)) ?_|refine FitsSl.cons (Fit1.bool rfl) ?_|refine FitsSl.cons (Fit1.str rfl) ?_|refine FitsSl.cons (Fit1.same (by intro h;cases h) (by with_reducible rfl)) ?_|refine FitsSl.cons Fit1.nil_sl ?_)
  (intro ⟨i,out,v⟩ hst;intro K hK;(conv=>whnf);refine hK _ _ ?_;clear hK K)
  dsimp only at hst ⊢
  obtain ⟨hd,hle,hle2⟩:=Lx.drop_sk tx i hst.le
  have hsk:=skip_c ⟨b0,0,none⟩ tx i hst.le (by omega)
  have hdone:=hst.done
  have hbad:=hst.bad
  have hnext:=@Lx.St.next _ _ _ hst
  have hfew:=hst.few
  have hol:=Lx.tokC_len out
  generalize Lx.sk tx i=j at *
  by_cases hj:j=tx.length
  · obtain ⟨L,hL,hLl,hres⟩:=hdone hj
    have hll:out.length=L.length:=by
      have:=congrArg List.length hres
      simpa [Lx.res] using this
    subst hj
    (repeat' (first|(with_reducible first|(refine hK _ _ ?_;clear hK K)|(refine hA ?_;clear hA hB A B)|(refine hK _ ?_;clear hK K))|((with_reducible refine z25 ?_);intro K hK;(conv=>whnf))|(with_reducible refine z0 ?_)|((first|((with_reducible refine NIf.decY ?s ?_);case s=>with_reducible rfl)|(with_reducible refine NN.a5 ?_)|((with_reducible refine NH.mk ?s ?_);case s=>(and_intros<;>first|with_reducible rfl|((with_reducible refine gOnes ?_);rfl)|((with_reducible refine gLen ?_);rfl)|omega|rfl))|((with_reducible refine NCall.isF 82 ?_);refine NCall.subE [1] (hsk) rfl (by decide) rfl rfl ?_))<;>(conv=>whnf))|(with_reducible first|refine z3 ?_|refine z4 ?_|refine z5 ?_|refine z8 ?_)|((with_reducible refine z29 ?_);intro A B hA hB;(conv=>whnf))|(with_reducible first|refine z1 ?_|refine z2 ?_|refine z12 ?_|refine z13 ?_|refine z20 ?_)|((with_reducible refine gR ?_);(refine z31 rfl ?_;intro K hK;(conv=>whnf)))|((intro _;skip)<;>(conv=>whnf))))
    rename_i b9 v2
    all_goals
      refine .inl ⟨L,v2,hL,hLl,MemFits.pick [0,2] (by decide) ?_,?_⟩
      · rw [← hres,← hll,List.flatMap_append]
        rfl
      · simp only [AV.den,denL,slOf,hll]
  · have hjl:j<tx.length:=by omega
    have hnx:=next_c ⟨b0,0,none⟩ tx j hjl (by omega)
    cases hn:Lx.nextB (tx.drop j) with
    | none =>
      have hbd:=hbad hjl hn
      have hnx:=hnx.mono (K':=fun r m=>r = .tup [tokAV 0 0 [] j,.bool false]∧∃ q,MemFits m [LB ⟨b0,0,none⟩ tx q]) fun r m h=>h.2 hn
      have hnx:NCall Tryd.prog 83 [.ptr 0 ⟨b0,0,none⟩ 0] [LB ⟨b0,0,none⟩ tx j] fun r m=>r = .tup [tokAV 0 0 [] j,.bool false]∧∃ q,m=[LB ⟨b0,0,none⟩ tx q]:=hnx.fits fun r m h=>by
        obtain ⟨h1,q,h2⟩:=h
        exact ⟨r,_,rfl,h2,h1,q,rfl⟩
      unfold tokAV at hnx
      (repeat' (first|(with_reducible first|(refine hK _ _ ?_;clear hK K)|(refine hA ?_;clear hA hB A B)|(refine hB ?_;clear hA hB A B)|(refine hK _ ?_;clear hK K))|((with_reducible refine z25 ?_);intro K hK;(conv=>whnf))|(with_reducible refine z0 ?_)|((with_reducible refine z27 ?_);intro K hK;(conv=>whnf))|(with_reducible refine z24 ?_)|((first|with_reducible refine NIf.not_ ?_|((with_reducible refine NIf.decN ?s ?_);case s=>omega)|((with_reducible refine NIf.no ?s ?_);case s=>rfl)|(with_reducible refine NN.a5 ?_)|((with_reducible refine NH.mk ?s ?_);case s=>(and_intros<;>first|with_reducible rfl|((with_reducible refine gOnes ?_);rfl)|((with_reducible refine gLen ?_);rfl)|rfl))|((with_reducible refine NCall.isF 82 ?_);refine NCall.subE [1] (hsk) rfl (by decide) rfl rfl ?_)|((with_reducible refine NCall.isF 83 ?_);refine NCall.subw [1] _ _ (hnx) rfl (by decide) rfl ?_;rintro _ _ ⟨rfl,q,rfl⟩;refine ⟨Nat.le_of_ble_eq_true rfl,_,rfl,?_⟩))<;>(conv=>whnf))|((with_reducible refine gX ?_);(first|(with_reducible first|refine z3 ?_|refine z4 ?_|refine z5 ?_|refine z6 ?_|refine z8 ?_)|((with_reducible refine z29 ?_);intro A B hA hB;(conv=>whnf))|refine z34 (by kernel_rfl) (by kernel_rfl) ?_))|(with_reducible first|refine z1 ?_|refine z2 ?_|refine z12 ?_|refine z13 ?_|refine z20 ?_)|((with_reducible refine gR ?_);(refine z31 rfl ?_;intro K hK;(conv=>whnf)))|((intro _;skip)<;>(conv=>whnf))))
      all_goals exact .inr ⟨hbd,_,_,by decide,MemFits.pick [0] (by decide) rfl,rfl⟩
    | some bn =>
      obtain ⟨b,n⟩:=bn
      obtain ⟨h1,h2,h3,h4⟩:=hnext hjl hn
      have hnx:NCall Tryd.prog 83 [.ptr 0 ⟨b0,0,none⟩ 0] [LB ⟨b0,0,none⟩ tx j] fun r m=>r = .tup [tokAV b.k b.n b.s j,.bool true]∧m=[LB ⟨b0,0,none⟩ tx (j+n)]:=hnx.fits fun r m h=>by
        obtain ⟨h5,h6⟩:=h.1 b n hn
        exact ⟨r,_,rfl,h6,h5,rfl⟩
      unfold tokAV at hnx
      by_cases hf:out.length=500
      · have hbd:=h4 hf
        (repeat' (first|(with_reducible first|(refine hK _ _ ?_;clear hK K)|(refine hA ?_;clear hA hB A B)|(refine hB ?_;clear hA hB A B)|(refine hK _ ?_;clear hK K))|((with_reducible refine z25 ?_);intro K hK;(conv=>whnf))|(with_reducible refine z0 ?_)|((with_reducible refine z27 ?_);intro K hK;(conv=>whnf))|(with_reducible refine z24 ?_)|((first|with_reducible refine NIf.not_ ?_|((with_reducible refine NIf.decY ?s ?_);case s=>omega)|((with_reducible refine NIf.decN ?s ?_);case s=>omega)|((with_reducible refine NIf.yes ?s ?_);case s=>rfl)|(with_reducible refine NN.a5 ?_)|((with_reducible refine NH.mk ?s ?_);case s=>(and_intros<;>first|with_reducible rfl|((with_reducible refine gOnes ?_);rfl)|((with_reducible refine gLen ?_);rfl)|rfl))|((with_reducible refine NCall.isF 82 ?_);refine NCall.subE [1] (hsk) rfl (by decide) rfl rfl ?_)|((with_reducible refine NCall.isF 83 ?_);refine NCall.subE [1] (hnx) rfl (by decide) rfl rfl ?_))<;>(conv=>whnf))|((with_reducible refine gX ?_);(first|(with_reducible first|refine z3 ?_|refine z4 ?_|refine z5 ?_|refine z6 ?_|refine z8 ?_)|((with_reducible refine z29 ?_);intro A B hA hB;(conv=>whnf))|refine z34 (by kernel_rfl) (by kernel_rfl) ?_))|(with_reducible first|refine z1 ?_|refine z2 ?_|refine z12 ?_|refine z13 ?_|refine z20 ?_)|((with_reducible refine gR ?_);(refine z31 rfl ?_;intro K hK;(conv=>whnf)))|((intro _;skip)<;>(conv=>whnf))))
        all_goals exact .inr ⟨hbd,_,_,by decide,MemFits.pick [0] (by decide) rfl,rfl⟩
      · have hst2:=h3 (by omega)
        (repeat' (first|(with_reducible first|(refine hK _ _ ?_;clear hK K)|(refine hB ?_;clear hA hB A B))|((with_reducible refine z25 ?_);intro K hK;(conv=>whnf))|(with_reducible refine z0 ?_)|((first|with_reducible refine NIf.not_ ?_|((with_reducible refine NIf.decN ?s ?_);case s=>omega)|((with_reducible refine NIf.yes ?s ?_);case s=>rfl)|(with_reducible refine NN.a5 ?_)|((with_reducible refine NH.mk ?s ?_);case s=>(and_intros<;>first|with_reducible rfl|((with_reducible refine gOnes ?_);rfl)|((with_reducible refine gLen ?_);rfl)|omega|rfl))|((with_reducible refine NCall.isF 82 ?_);refine NCall.subE [1] (hsk) rfl (by decide) rfl rfl ?_)|((with_reducible refine NCall.isF 83 ?_);refine NCall.subE [1] (hnx) rfl (by decide) rfl rfl ?_))<;>(conv=>whnf))|(with_reducible first|refine z3 ?_|refine z4 ?_|refine z5 ?_|refine z6 ?_)|((with_reducible refine z29 ?_);intro A B hA hB;(conv=>whnf))|(with_reducible first|refine z1 ?_|refine z2 ?_|refine z9 ?_)|((intro _;skip)<;>(conv=>whnf))))
        rename_i v2
        refine st_round (j+n,out++[⟨b.k,b.n,b.s,j⟩],v2) hst2 (by dsimp only;omega) ?_ (MemFits.trans (MemFits.pre 3 rfl) (MemFits.eq ?_))
        · repeat (first|exact FitsSl.nil|refine FitsSl.any ?_|refine FitsSl.cons (Fit1.int (by first | rfl | omega)) ?_|refine FitsSl.cons (Fit1.bool rfl) ?_|refine FitsSl.cons (Fit1.str rfl) ?_|refine FitsSl.cons (Fit1.same (by intro h;cases h) (by with_reducible rfl)) ?_|refine FitsSl.cons (Fit1.sl rfl) ?_)
        · rw [List.flatMap_append,List.length_append]
          rfl
theorem lex_c (F:Heap) (tx:List UInt8) (hs:tx.length≤4000):NCall Tryd.prog 55 [.str tx] [hpB F] fun r m =>
    (∃ L F' v,Lx.toks tx=some L∧L.length≤500∧F.le F'∧m=[hpB F']∧r = .tup [.hs v (Lx.res tx L).length,.int .i64 0,.int .i64 0]∧RowF F' 4 (fun x vs=>vs=Lx.tokV x) v (Lx.res tx L)) ∨
    (¬ Lx.good tx∧∃ at_ e:Int,e≠0∧m=[hpB F]∧r = .tup [.hs (.slice none 0 0) 0,.int .i64 at_,.int .i64 e]):=by
  refine Go.Sx.NCall.know (lex_raw F tx hs) fun r m' h ⟨w,hw⟩=>?_
  rcases h with ⟨L,v,hL,hLl,hm,hr⟩ | ⟨hb,at_,e,he,hm,hr⟩
  · have hlen:(Lx.res tx L).length=L.length+1:=by simp [Lx.res]
    obtain ⟨hok,_,hsl⟩:=(hm w hw).1.row (List.mem_cons_of_mem _ (List.mem_singleton.2 rfl))
    refine ⟨.tup [.hs v (Lx.res tx L).length,.int .i64 0,.int .i64 0],_,?_,hm.trans (MemFits.freeze (m:=[])),.inl ⟨L,_,v,hL,hLl,addF.old,rfl,rfl,rowF_new (by rw [hlen];exact hok) (Lx.tokC_den _) (fun x _=>rfl)⟩⟩
    rw [hr];rfl
  · exact ⟨.tup [.hs (.slice none 0 0) 0,.int .i64 at_,.int .i64 e],_,by rw [hr];rfl,hm,.inr ⟨hb,at_,e,he,rfl,rfl⟩⟩
def Lx.b (x:Lx.T):Lx.B:=⟨x.k,x.n,x.s⟩
end Go.Proofs.YtaojbkphcnailaaDoor
