import Derived.Test.YtaojbkphcnailaaDoorJ5
import Derived.Lib.Join
import Derived.Test.YtaojbkphcnailaaDoorSxC
import Derived.Test.YtaojbkphcnailaaDoorJ21
import Derived.Test.YtaojbkphcnailaaDoorJ23
namespace Go.Proofs.YtaojbkphcnailaaDoor
open Go.Sx
def TabF (F:Heap):Prop:=∃ t fr,F.o 0 (.cells (Lib.pow10Tab.map fun z=>Value.int .u64 z).toArray t fr)
theorem TabF.mono {F G:Heap} (h:F.le G) (hF:TabF F):TabF G:=by
  obtain ⟨t,fr,h1⟩:=hF
  exact ⟨t,fr,h.o _ _ h1⟩
theorem MemOk.heapO {F:Heap} {w:World} (h:MemOk [hpB F] w) {b:Nat} {o:Obj} (ho:F.o b o):w.heap[b]?=some o :=
  (h.holds (hpB F) (by simp)).2.2 b o ho
theorem tab_is {F : Heap} (hF : TabF F) {w : World} (h : MemOk [hpB F] w) : Lib.TabIs Tryd.prog w "internal/strconv.uint64pow10" .u64 Lib.pow10Tab := by
  obtain ⟨t,fr,h1⟩:=hF
  have h2:=MemOk.heapO h h1
  have hg : Tryd.prog.globalNamed "internal/strconv.uint64pow10" = some 0 := by kernel_rfl
  unfold Lib.TabIs World.var?
  rw [hg]
  simp only [Option.bind_some,h2]
theorem itoa_c (F:Heap) (hF:TabF F) (n:Int) (hn : -9223372036854775808≤n∧n≤9223372036854775807):NCall Tryd.prog 42 [.int .i64 n] [hpB F] fun r m=>r = .str (Lib.itoa n)∧m=[hpB F]:=by
  refine ncall_below (Go.Sx.enters_of Tryd.func42 rfl (by decide)) fun w hw=>?_
  refine (Tryd.strconv_Itoa n hn.1 hn.2 w (tab_is hF hw)).mono fun e w' ⟨h1,k,os,h2⟩=>?_
  subst h2
  refine ⟨h1,rfl,rfl,rfl,by simp [Sort.grow,World.drewN],fun b hb=>?_⟩
  simp [Sort.grow,World.drewN,Array.getElem?_append_left hb]
def strV (x:List UInt8):List Value:=[.string ⟨x.toArray⟩]
theorem join_c (F:Heap) (v:Value) (l:List (List UInt8)) (sep:List UInt8) (hv:RowF F 1 (fun x vs=>vs=strV x) v l) (hl:(Lib.join l sep).length≤140737488355328) (hn:l.length≤140737488355328) :
    NCall Tryd.prog 43 [.hs v l.length,.str sep] [hpB F] fun r m=>r = .str (Lib.join l sep)∧m=[hpB F]:=by
  have hen:∀ (us:Array Value) (w:World),(callFunc 43 us).run Tryd.prog w = .ok (.enter 43 us) w:=Go.Sx.enters_of Tryd.func43 rfl (by decide)
  obtain ⟨⟨A,cap,rfl,hcap,hA⟩,hat⟩:=hv
  cases l with
  | nil =>
    refine ncall_below hen fun w hw=>?_
    refine (Tryd.strings_Join_none A cap ⟨sep.toArray⟩ w).mono fun e w' ⟨h1,h2⟩=>?_
    subst h2
    exact ⟨h1,rfl,rfl,rfl,Nat.le_refl _,fun _ _=>rfl⟩
  | cons x l =>
    refine ncall_below hen fun w hw=>?_
    have hc:∀ a u,F.c a u→a.block<w.heap.size∧w.cell? a=some u:=(hw.holds (hpB F) (by simp)).2.1
    cases A with
    | none=>have:=hA rfl;simp at hcap;omega
    | some a =>
      obtain ⟨vs,rfl,_,h0⟩:=hat 0 x rfl
      have h00:=hc _ _ h0.1
      have hsp:a.spot=none:=by
        have h1:=World.cell?_spot h00.2
        simpa [addrOf,Addr.add] using h1
      obtain ⟨bk,o,sp⟩:=a
      dsimp only at hsp
      subst hsp
      have hm:((x::l).map fun y=>(⟨y.toArray⟩:ByteArray)).map (·.data.toList)=x::l:=by simp [Function.comp_def]
      have hj:=Tryd.strings_Join bk o cap ((x::l).map fun y=>⟨y.toArray⟩) ⟨sep.toArray⟩ w (fun j y hy=>by
        rw [List.getElem?_map] at hy
        cases hx:(x::l)[j]? with
        | none=>rw [hx] at hy;cases hy
        | some z =>
          rw [hx] at hy
          injection hy with hy
          subst hy
          obtain ⟨vs,rfl,_,h1⟩:=hat j z hx
          have:=(hc _ _ h1.1).2
          by_cases hj0:j=0
          · subst hj0;simpa [addrOf,Addr.add] using this
          · simpa [addrOf,Addr.add,hj0] using this) (by have:=h00.1;rw [block_of_add] at this;exact this) (by simpa using hn) (by simpa using hcap) (by rw [hm];simpa using hl)
      rw [hm] at hj
      simp only [List.length_map] at hj
      refine hj.mono fun e w' ⟨h1,h2⟩=>?_
      exact ⟨by simpa [AV.den] using h1,h2.os,h2.tape,h2.output,h2.size,h2.block⟩
def strAV (l:List (List UInt8)):List AV:=l.map .str
theorem strAV_den (l:List (List UInt8)):denL (strAV l)=l.flatMap strV:=by
  induction l with
  | nil=>rfl
  | cons x l ih=>simp only [strAV,List.map_cons,List.flatMap_cons,strV,denL,AV.den] at *;rw [ih];rfl
theorem strAV_len (l:List (List UInt8)):(strAV l).length=l.length:=by simp [strAV]
theorem join_own (F:Heap) (v:Value) (l:List (List UInt8)) (sep:List UInt8) (t:TypeId) (m:List Blk) (hm:MemFits m [hpB F,⟨addrOf v,strAV l,.row v t 1 l.length⟩]) (hl:(Lib.join l sep).length≤140737488355328) (hn:l.length≤140737488355328) (i:Nat) :
    NCall Tryd.prog 43 [.sl i v l.length,.str sep] m fun r m'=>r = .str (Lib.join l sep)∧m'=m :=
  NCall.frozen (args':=[.hs v l.length,.str sep]) strV (join_c noHeap (.slice none 0 0) [] [] RowF.nil (by decide) (by decide)) rfl hm rfl (strAV_den l) (fun _ _=>rfl) fun G _ hr =>
    (join_c G v l sep hr hl hn).mono fun _ _ h=>⟨h.1,rfl⟩
end Go.Proofs.YtaojbkphcnailaaDoor
namespace Go.Proofs.YtaojbkphcnailaaDoor
open Go.Sx
set_option maxRecDepth 20000
set_option linter.unusedSimpArgs false
set_option linter.unusedVariables false
set_option maxHeartbeats 4000000
set_option linter.unusedVariables false
theorem words26_c:NCall Tryd.prog 47 [] [] fun r _=>r = .agg [.str [115,114,99],.str [100,115,116],.str [107,105,110,100],.str [116,97,103],.str [112,111,114,116],.str [115,119,105,116,99,104]]:=by
  refine ncall_of Tryd.func47 rfl (by decide) ?_
  (repeat' (first|(with_reducible first|(refine hK _ _ ?_;clear hK K)|(refine hK _ ?_;clear hK K))|((with_reducible refine z25 ?_);intro K hK;(conv=>whnf))|(with_reducible refine z0 ?_)|(((with_reducible refine NH.mk ?s ?_);case s=>(and_intros<;>first|with_reducible rfl|((with_reducible refine gOnes ?_);rfl)|((with_reducible refine gLen ?_);rfl)))<;>(conv=>whnf))|(with_reducible first|refine z3 ?_|refine z4 ?_|refine z8 ?_|refine z1 ?_|refine z2 ?_)|((with_reducible refine gR ?_);(refine z31 rfl ?_;intro K hK;(conv=>whnf)))|((with_reducible refine gF ?_);(refine z33 rfl ?_;intro K hK;(conv=>whnf)))|((intro _;skip)<;>(conv=>whnf))))
  all_goals rfl
theorem inner26_of (F:Heap) (k f v:Int) (l:List Pd.T) (u:Value) (s:List UInt8) (hok:SlOk u l.length) (hs:s.length≤4611686018427387904) (h:NCall Tryd.prog 21 [.agg (Pd.cs (.mk k f v l) u)] [hpB F] fun r m=>r = .str s∧m=[hpB F]) :
    NCall Tryd.prog 48 [.agg [.int .i64 k,.int .i64 f,.int .i64 v,.hs u l.length]] [hpB F] fun r m=>r = .str (Pd.innerT k s)∧m=[hpB F]:=by
  refine NCall.fits (K:=fun r m=>r = .str (Pd.innerT k s)∧MemFits m [hpB F]) ?_ fun r m' h=>⟨r,_,rfl,h.2,h.1,rfl⟩
  rw [pd_cs] at h
  unfold Pd.innerT
  refine ncall_of Tryd.func48 rfl (by decide) ?_
  by_cases hk:k=5∨k=6
  · rw [if_pos hk]
    rcases hk with rfl | rfl
    · (repeat' (first|(with_reducible first|(refine hK _ _ ?_;clear hK K)|(refine hA ?_;clear hA hB A B)|(refine hK _ ?_;clear hK K))|((with_reducible first|refine z25 ?_|refine z26 ?_);intro K hK;(conv=>whnf))|(with_reducible refine z0 ?_)|((first|((with_reducible refine NIf.decY ?s ?_);case s=>with_reducible rfl)|((with_reducible refine NIf.yes ?s ?_);case s=>rfl)|(with_reducible refine NN.a5 ?_)|((with_reducible refine NH.mk ?s ?_);case s=>(and_intros<;>first|with_reducible rfl|(simp only [List.length_append,List.length_cons,List.length_nil];omega)))|((with_reducible refine NCall.isF 21 ?_);refine NCall.subE [0] (h) rfl (by decide) rfl rfl ?_)|(with_reducible refine NS.keep ?_))<;>(conv=>whnf))|(with_reducible first|refine z3 ?_|refine z4 ?_|refine z8 ?_)|((with_reducible refine z29 ?_);intro A B hA hB;(conv=>whnf))|(with_reducible first|refine z1 ?_|refine z2 ?_|refine z12 ?_)|((with_reducible refine gR ?_);(refine z31 rfl ?_;intro K hK;(conv=>whnf)))|((with_reducible refine gF ?_);(refine z33 rfl ?_;intro K hK;(conv=>whnf)))|((intro _;skip)<;>(conv=>whnf))))
      all_goals exact ⟨rfl,MemFits.pre 1 rfl⟩
    · (repeat' (first|(with_reducible first|(refine hK _ _ ?_;clear hK K)|(refine hA ?_;clear hA hB A B)|(refine hK _ ?_;clear hK K))|((with_reducible first|refine z25 ?_|refine z26 ?_);intro K hK;(conv=>whnf))|(with_reducible refine z0 ?_)|((first|((with_reducible refine NIf.decY ?s ?_);case s=>with_reducible rfl)|((with_reducible refine NIf.decN ?s ?_);case s=>omega)|(with_reducible refine NN.a5 ?_)|((with_reducible refine NH.mk ?s ?_);case s=>(and_intros<;>first|with_reducible rfl|(simp only [List.length_append,List.length_cons,List.length_nil];omega)))|((with_reducible refine NCall.isF 21 ?_);refine NCall.subE [0] (h) rfl (by decide) rfl rfl ?_)|(with_reducible refine NS.keep ?_))<;>(conv=>whnf))|(with_reducible first|refine z3 ?_|refine z4 ?_|refine z8 ?_)|((with_reducible refine z29 ?_);intro A B hA hB;(conv=>whnf))|(with_reducible first|refine z1 ?_|refine z2 ?_|refine z12 ?_)|((with_reducible refine gR ?_);(refine z31 rfl ?_;intro K hK;(conv=>whnf)))|((with_reducible refine gF ?_);(refine z33 rfl ?_;intro K hK;(conv=>whnf)))|((intro _;skip)<;>(conv=>whnf))))
      all_goals exact ⟨rfl,MemFits.pre 1 rfl⟩
  · rw [if_neg hk]
    (repeat' (first|(with_reducible first|(refine hK _ _ ?_;clear hK K)|(refine hB ?_;clear hA hB A B)|(refine hK _ ?_;clear hK K))|((with_reducible first|refine z25 ?_|refine z26 ?_);intro K hK;(conv=>whnf))|(with_reducible refine z0 ?_)|((first|((with_reducible refine NIf.decN ?s ?_);case s=>omega)|(with_reducible refine NN.a5 ?_)|((with_reducible refine NH.mk ?s ?_);case s=>(and_intros<;>with_reducible rfl))|((with_reducible refine NCall.isF 21 ?_);refine NCall.subE [0] (h) rfl (by decide) rfl rfl ?_))<;>(conv=>whnf))|(with_reducible first|refine z3 ?_|refine z4 ?_|refine z6 ?_|refine z8 ?_)|((with_reducible refine z29 ?_);intro A B hA hB;(conv=>whnf))|(with_reducible first|refine z1 ?_|refine z2 ?_)|((with_reducible refine gR ?_);(refine z31 rfl ?_;intro K hK;(conv=>whnf)))|((with_reducible refine gF ?_);(refine z33 rfl ?_;intro K hK;(conv=>whnf)))|((intro _;skip)<;>(conv=>whnf))))
    all_goals first
      | exact ⟨rfl,MemFits.pre 1 rfl⟩
      | (exfalso;omega)
theorem text26_3 (F:Heap) (hF:TabF F) (f v:Int) (u:Value) (hok:SlOk u 0) (hf:0≤f∧f≤5) (hv:0≤v∧v≤255) :
    NCall Tryd.prog 21 [.agg [.int .i64 3,.int .i64 f,.int .i64 v,.hs u 0]] [hpB F] fun r m=>r = .str (Pd.word f++([32,61,32]++Lib.itoa v))∧MemFits m [hpB F]:=by
  have ci:=itoa_c F hF v (by omega)
  have hln:=Lib.itoa_length_le v (by omega) (by omega)
  generalize Lib.itoa v=s at *
  have:f=0∨f=1∨f=2∨f=3∨f=4∨f=5:=by omega
  refine ncall_of Tryd.func21 rfl (by decide) ?_
  rcases this with rfl | rfl | rfl | rfl | rfl | rfl
  all_goals (repeat' (first|(with_reducible first|(refine hK _ _ ?_;clear hK K)|(refine hA ?_;clear hA hB A B)|(refine hB ?_;clear hA hB A B)|(refine hK _ ?_;clear hK K))|((with_reducible refine z25 ?_);intro K hK;(conv=>whnf))|(with_reducible refine z0 ?_)|((first|(with_reducible refine NV.keep ?_)|((with_reducible refine NIf.decY ?s ?_);case s=>with_reducible rfl)|((with_reducible refine NIf.decN ?s ?_);case s=>omega)|(with_reducible first|refine NN.a2 ?_|refine NN.a5 ?_|refine NN.keep ?_)|((with_reducible refine NH.mk ?s ?_);case s=>(and_intros<;>first|with_reducible rfl|((with_reducible refine gKept ?_);exact rfl)|omega|exact Nat.le_of_ble_eq_true rfl|(simp only [List.length_append,List.length_cons,List.length_nil];omega)|rfl))|((with_reducible refine NCall.isF 47 ?_);refine NCall.pureE (words26_c) ?_)|((with_reducible refine NCall.isF 42 ?_);refine NCall.subE [0] (ci) rfl (by decide) rfl rfl ?_)|(with_reducible refine NS.keep ?_))<;>(conv=>whnf))|(with_reducible refine st_ordSout ?_)|((with_reducible refine gNOK ?_);(first|(refine st_ordK1 rfl (by kernel_rfl) rfl ?_;intro K hK;(conv=>whnf))|refine st_ordK0 rfl (by kernel_rfl) ?_|refine st_ordKA rfl rfl (by kernel_rfl) (by intro h;cases h) ?_))|((with_reducible refine gNEK ?_);(first|(refine st_eachK ?_ ?_;(intro K hK;(conv=>whnf)))|exact st_eachK0))|((with_reducible refine gX ?_);(first|refine st_orderS [] rfl rfl (by kernel_rfl) _ rfl ?_|(with_reducible first|refine z3 ?_|refine z4 ?_|refine z5 ?_|refine z8 ?_)|((with_reducible refine z29 ?_);intro A B hA hB;(conv=>whnf))))|(with_reducible first|refine z1 ?_|refine z2 ?_|refine z12 ?_|refine z13 ?_)|((with_reducible refine gR ?_);(refine z31 rfl ?_;intro K hK;(conv=>whnf)))|((with_reducible refine gF ?_);(refine z33 rfl ?_;intro K hK;(conv=>whnf)))|((intro _;skip)<;>(conv=>whnf))))
  all_goals exact ⟨by simp [Pd.word],MemFits.pre 1 rfl⟩
theorem text26_c (F:Heap) (hF:TabF F):∀ (n:Nat) (p:Pd.T) (u:Value),Pd.size p≤n→Pd.size p≤1000000000→Pd.fits p=true→Pd.Row F u p.l →
    NCall Tryd.prog 21 [.agg (Pd.cs p u)] [hpB F] fun r m=>r = .str (Pd.text p)∧m=[hpB F]
  | 0,p,u,hn,_,_,_=>absurd (Pd.size_pos p) (by omega)
  | n+1,⟨k,f,v,l⟩,u,hn,hs,hf,hu=>by
    refine NCall.fits (K:=fun r m=>r = .str (Pd.text (.mk k f v l))∧MemFits m [hpB F]) ?_ fun r m' h=>⟨r,_,rfl,h.2,h.1,rfl⟩
    have hu:Pd.Row F u l:=hu
    have hok:=hu.ok
    have htl:=Pd.text_len _ hf
    obtain ⟨hsh,hfl⟩:=Pd.fits_mk hf
    have e2:=Pd.size_mk k f v l
    have hll:=Pd.length_le l
    have htop:=Pd.top_lt f
    rw [pd_cs]
    by_cases h3:k=3
    · subst h3
      have hl0:l=[]:=List.length_eq_zero_iff.1 (by omega)
      subst hl0
      have:=text26_3 F hF f v u hok (by omega) (by omega)
      rw [Pd.text]
      exact this
    by_cases h1:k=1
    · subst h1
      rw [Pd.text]
      refine ncall_of Tryd.func21 rfl (by decide) ?_
      (repeat' (first|(with_reducible first|(refine hK _ _ ?_;clear hK K)|(refine hA ?_;clear hA hB A B)|(refine hK _ ?_;clear hK K))|((with_reducible refine z25 ?_);intro K hK;(conv=>whnf))|(with_reducible refine z0 ?_)|((first|((with_reducible refine NIf.decY ?s ?_);case s=>with_reducible rfl)|(with_reducible refine NN.a5 ?_)|((with_reducible refine NH.mk ?s ?_);case s=>(and_intros<;>with_reducible rfl)))<;>(conv=>whnf))|(with_reducible first|refine z3 ?_|refine z4 ?_|refine z5 ?_|refine z8 ?_)|((with_reducible refine z29 ?_);intro A B hA hB;(conv=>whnf))|(with_reducible first|refine z1 ?_|refine z2 ?_|refine z12 ?_|refine z13 ?_)|((with_reducible refine gR ?_);(refine z31 rfl ?_;intro K hK;(conv=>whnf)))|((with_reducible refine gF ?_);(refine z33 rfl ?_;intro K hK;(conv=>whnf)))|((intro _;skip)<;>(conv=>whnf))))
      all_goals exact ⟨rfl,MemFits.pre 1 rfl⟩
    by_cases h2:k=2
    · subst h2
      rw [Pd.text]
      refine ncall_of Tryd.func21 rfl (by decide) ?_
      (repeat' (first|(with_reducible first|(refine hK _ _ ?_;clear hK K)|(refine hA ?_;clear hA hB A B)|(refine hB ?_;clear hA hB A B)|(refine hK _ ?_;clear hK K))|((with_reducible refine z25 ?_);intro K hK;(conv=>whnf))|(with_reducible refine z0 ?_)|((first|((with_reducible refine NIf.decY ?s ?_);case s=>with_reducible rfl)|((with_reducible refine NIf.decN ?s ?_);case s=>assumption)|(with_reducible refine NN.a5 ?_)|((with_reducible refine NH.mk ?s ?_);case s=>(and_intros<;>with_reducible rfl)))<;>(conv=>whnf))|(with_reducible first|refine z3 ?_|refine z4 ?_|refine z5 ?_|refine z8 ?_)|((with_reducible refine z29 ?_);intro A B hA hB;(conv=>whnf))|(with_reducible first|refine z1 ?_|refine z2 ?_|refine z12 ?_|refine z13 ?_)|((with_reducible refine gR ?_);(refine z31 rfl ?_;intro K hK;(conv=>whnf)))|((with_reducible refine gF ?_);(refine z33 rfl ?_;intro K hK;(conv=>whnf)))|((intro _;skip)<;>(conv=>whnf))))
      all_goals exact ⟨rfl,MemFits.pre 1 rfl⟩
    have hpl:=Pd.parts_len l
    have ci:∀ x∈l,∀ A,Pd.Row F A x.l→NCall Tryd.prog 48 [.agg (Pd.cs x A)] [hpB F] fun r m=>r = .str (Pd.innerT x.k (Pd.text x))∧m=[hpB F]:=fun x hx A hA=>by
      have hlt:=Pd.size_lt (k:=k) (f:=f) (v:=v) hx
      have:=text26_c F hF n x A (by omega) (by omega) (hfl x hx) hA
      have hxl:=Pd.text_len x (hfl x hx)
      obtain ⟨xk,xf,xv,xl⟩:=x
      exact inner26_of F xk xf xv xl A _ hA.ok (by omega) this
    have hsum:=Pd.parts_sum l (by rw [Pd.fitsL_iff];exact hfl)
    have hj0:=Nat.le_trans (Pd.join_le [] (Pd.parts l)) (Pd.sum_le (a:=([]:List UInt8).length) (b:=5) _ (by simp))
    have hj5:=Nat.le_trans (Pd.join_le [32,97,110,100,32] (Pd.parts l)) (Pd.sum_le (a:=([32,97,110,100,32]:List UInt8).length) (b:=5) _ (by simp))
    have hj6:=Nat.le_trans (Pd.join_le [32,111,114,32] (Pd.parts l)) (Pd.sum_le (a:=([32,111,114,32]:List UInt8).length) (b:=5) _ (by simp))
    have hT:Pd.text (.mk k f v l)=if k=4 then [110,111,116,32]++Lib.join (Pd.parts l) [] else Lib.join (Pd.parts l) (Pd.sepOf k):=by rw [Pd.text,if_neg h1,if_neg h2,if_neg h3]
    rw [hT]
    refine ncall_of Tryd.func21 rfl (by decide) ?_
    (repeat' (first|(with_reducible first|(refine hK _ _ ?_;clear hK K)|(refine hB ?_;clear hA hB A B)|(refine hK _ ?_;clear hK K))|((with_reducible refine z25 ?_);intro K hK;(conv=>whnf))|(with_reducible refine z0 ?_)|((first|((with_reducible refine NIf.decN ?s ?_);case s=>assumption)|(with_reducible refine NN.a5 ?_)|((with_reducible refine NH.mk ?s ?_);case s=>(and_intros<;>first|with_reducible rfl|omega)))<;>(conv=>whnf))|(with_reducible first|refine z3 ?_|refine z4 ?_|refine z5 ?_|refine z6 ?_)|((with_reducible refine z29 ?_);intro A B hA hB;(conv=>whnf))|(with_reducible first|refine z1 ?_|refine z2 ?_|refine z9 ?_)|((with_reducible refine gF ?_);(refine z33 rfl ?_;intro K hK;(conv=>whnf)))|((intro _;skip)<;>(conv=>whnf))))
    refine st_auto (α:=Value × Nat) (fun (w,i)=>i≤l.length) (fun (w,i)=>[.keep,.keep,.keep,.set (.sl 2 w i),.keep,.drop,.keep,.keep,.keep,.keep,.keep,.keep,.keep,.keep,.keep,.keep,.keep,.keep,.keep,.keep,.keep,.keep,.keep,.keep,.keep,.keep,.keep,.keep,.set (.int .i64 i),.drop,.drop,.drop,.drop,.drop,.drop,.drop,.drop,.drop,.keep,.keep,.keep,.keep,.keep,.keep,.keep,.keep,.keep,.keep,.keep,.keep,.keep]) (fun (w,i)=>[.keep,.keep,.set ⟨addrOf w,strAV (Pd.parts (l.take i)),.row w 9 1 i⟩]) (fun (w,i)=>l.length - i) (.slice none 0 0,0) (Nat.zero_le _) ?_ ((MemFits.nilRow _ 9 1).trans (MemFits.congr rfl)) ?_
    · repeat (first|exact FitsSl.nil|refine FitsSl.any ?_|refine FitsSl.cons (Fit1.int (by first | rfl | omega)) ?_|refine FitsSl.cons (Fit1.bool rfl) ?_|refine FitsSl.cons (Fit1.str rfl) ?_|refine FitsSl.cons (Fit1.same (by intro h;cases h) (by with_reducible rfl)) ?_|refine FitsSl.cons Fit1.nil_sl ?_)
    (intro ⟨w,i⟩ hi;intro K hK;(conv=>whnf);refine hK _ _ ?_;clear hK K)
    dsimp only
    have hi:i≤l.length:=hi
    by_cases hlt:i<l.length
    · have hx:l[i]?=some l[i]:=List.getElem?_eq_getElem hlt
      obtain ⟨A,cap,hA,c0,c1,c2,c3⟩:=hu.get hx
      have c:=ci _ (List.mem_of_getElem? hx) _ hA
      have hnx:=Pd.parts_take hlt
      have hpi:=Pd.parts_len (l.take i)
      rw [List.length_take,Nat.min_eq_left hi] at hpi
      have hav:=strAV_len (Pd.parts (l.take i))
      rw [hpi] at hav
      have hav2:strAV (Pd.parts (l.take (i+1)))=strAV (Pd.parts (l.take i))++[.str (Pd.innerT l[i].k (Pd.text l[i]))]:=by rw [hnx];unfold strAV;rw [List.map_append];rfl
      clear ci hT hj0 hj5 hj6 hsum hnx
      generalize Pd.innerT l[i].k (Pd.text l[i])=y at *
      generalize l[i]=x at *
      generalize strAV (Pd.parts (l.take i))=B at *
      obtain ⟨xk,xf,xv,xl⟩:=x
      simp only [Pd.cs,Pd.T.k,Pd.T.f,Pd.T.v,Pd.T.l] at c c0 c1 c2 c3 hA
      (repeat' (first|(with_reducible first|(refine hK _ _ ?_;clear hK K)|(refine hA ?_;clear hA hB A B))|((with_reducible refine z25 ?_);intro K hK;(conv=>whnf))|(with_reducible refine z0 ?_)|((first|((with_reducible refine NV.i64 ?s ?_);case s=>omega)|((with_reducible refine NIf.decY ?s ?_);case s=>omega)|(with_reducible first|refine NN.cast ?_|refine NN.keep ?_)|((with_reducible refine NH.mk ?s ?_);case s=>(and_intros<;>first|with_reducible rfl|((with_reducible refine gOnes ?_);rfl)|((with_reducible refine gLen ?_);rfl)|omega))|((with_reducible refine NCall.isF 48 ?_);refine NCall.subE [0] (c) rfl (by decide) rfl rfl ?_)|(with_reducible refine NLd.of (by with_reducible assumption) ?_))<;>(conv=>whnf))|(with_reducible first|refine z3 ?_|refine z4 ?_|refine z5 ?_|refine z6 ?_)|((with_reducible refine z29 ?_);intro A B hA hB;(conv=>whnf))|(with_reducible first|refine z1 ?_|refine z2 ?_|refine z9 ?_)|((intro _;skip)<;>(conv=>whnf))))
      all_goals
        rename_i v9
        refine st_round (v9,i+1) hlt (by show l.length - (i+1)<l.length - i;omega) ?_ (MemFits.pre 3 ?_)
        · dsimp only
          repeat (first|exact FitsSl.nil|refine FitsSl.any ?_|refine FitsSl.cons (Fit1.int (by first | rfl | omega)) ?_|refine FitsSl.cons (Fit1.bool rfl) ?_|refine FitsSl.cons (Fit1.str rfl) ?_|refine FitsSl.cons (Fit1.same (by intro h;cases h) (by with_reducible rfl)) ?_)
        · simp only [autoM,List.take,hav2]
          rfl
    · have hkl:i=l.length:=by omega
      subst hkl
      rw [List.take_length]
      clear ci
      have hjo:=fun m sep hm h1=>join_own F w (Pd.parts l) sep 9 m hm h1 (by omega) 2
      rw [hpl] at hjo
      by_cases h4:k=4
      · subst h4
        rw [if_pos rfl]
        (repeat' (first|(with_reducible first|(refine hK _ _ ?_;clear hK K)|(refine hA ?_;clear hA hB A B)|(refine hB ?_;clear hA hB A B)|(refine hK _ ?_;clear hK K))|((with_reducible refine z25 ?_);intro K hK;(conv=>whnf))|(with_reducible refine z0 ?_)|((first|((with_reducible refine NIf.decY ?s ?_);case s=>with_reducible rfl)|((with_reducible refine NIf.decN ?s ?_);case s=>omega)|(with_reducible refine NN.a5 ?_)|((with_reducible refine NH.mk ?s ?_);case s=>(and_intros<;>first|with_reducible rfl|(simp only [List.length_append,List.length_cons,List.length_nil];omega)))|(with_reducible refine NS.keep ?_))<;>(conv=>whnf))|((with_reducible refine NCall.isF 43 ?_);(refine (hjo _ [] (MemFits.pick (m':=[hpB F,_]) [0,2] (by decide) rfl) (by omega)).mono ?_;rintro _ _ ⟨rfl,rfl⟩;(conv=>whnf)))|(with_reducible first|refine z3 ?_|refine z4 ?_|refine z5 ?_|refine z7 ?_|refine z8 ?_)|((with_reducible refine z29 ?_);intro A B hA hB;(conv=>whnf))|(with_reducible first|refine z1 ?_|refine z2 ?_|refine z10 ?_|refine z11 ?_|refine z12 ?_|refine z13 ?_|refine z19 ?_)|((with_reducible refine gR ?_);(refine z31 rfl ?_;intro K hK;(conv=>whnf)))))
        all_goals exact ⟨rfl,MemFits.pre 1 rfl⟩
      rw [if_neg h4]
      by_cases h5:k=5
      · subst h5
        (repeat' (first|(with_reducible first|(refine hK _ _ ?_;clear hK K)|(refine hA ?_;clear hA hB A B)|(refine hB ?_;clear hA hB A B)|(refine hK _ ?_;clear hK K))|((with_reducible refine z25 ?_);intro K hK;(conv=>whnf))|(with_reducible refine z0 ?_)|((first|((with_reducible refine NIf.decY ?s ?_);case s=>with_reducible rfl)|((with_reducible refine NIf.decN ?s ?_);case s=>first|assumption|omega)|(with_reducible refine NN.a5 ?_)|((with_reducible refine NH.mk ?s ?_);case s=>(and_intros<;>with_reducible rfl)))<;>(conv=>whnf))|((with_reducible refine NCall.isF 43 ?_);(refine (hjo _ [32,97,110,100,32] (MemFits.pick (m':=[hpB F,_]) [0,2] (by decide) rfl) (by omega)).mono ?_;rintro _ _ ⟨rfl,rfl⟩;(conv=>whnf)))|(with_reducible first|refine z3 ?_|refine z4 ?_|refine z5 ?_|refine z7 ?_|refine z8 ?_)|((with_reducible refine z29 ?_);intro A B hA hB;(conv=>whnf))|(with_reducible first|refine z1 ?_|refine z2 ?_|refine z10 ?_|refine z11 ?_|refine z12 ?_|refine z13 ?_|refine z19 ?_)|((with_reducible refine gR ?_);(refine z31 rfl ?_;intro K hK;(conv=>whnf)))))
        all_goals exact ⟨rfl,MemFits.pre 1 rfl⟩
      have h6:k=6:=by omega
      subst h6
      (repeat' (first|(with_reducible first|(refine hK _ _ ?_;clear hK K)|(refine hB ?_;clear hA hB A B)|(refine hK _ ?_;clear hK K))|((with_reducible refine z25 ?_);intro K hK;(conv=>whnf))|(with_reducible refine z0 ?_)|((first|((with_reducible refine NIf.decN ?s ?_);case s=>first|assumption|omega)|(with_reducible refine NN.a5 ?_)|((with_reducible refine NH.mk ?s ?_);case s=>(and_intros<;>with_reducible rfl)))<;>(conv=>whnf))|((with_reducible refine NCall.isF 43 ?_);(refine (hjo _ [32,111,114,32] (MemFits.pick (m':=[hpB F,_]) [0,2] (by decide) rfl) (by omega)).mono ?_;rintro _ _ ⟨rfl,rfl⟩;(conv=>whnf)))|(with_reducible first|refine z3 ?_|refine z4 ?_|refine z5 ?_|refine z6 ?_|refine z7 ?_|refine z8 ?_)|((with_reducible refine z29 ?_);intro A B hA hB;(conv=>whnf))|(with_reducible first|refine z1 ?_|refine z2 ?_|refine z9 ?_|refine z10 ?_|refine z11 ?_|refine z19 ?_)|((with_reducible refine gR ?_);(refine z31 rfl ?_;intro K hK;(conv=>whnf)))))
      all_goals exact ⟨rfl,MemFits.pre 1 rfl⟩
end Go.Proofs.YtaojbkphcnailaaDoor
