import Derived.Test.YtaojbkphcnailaaDoorJ3
import Derived.Test.YtaojbkphcnailaaDoorJ11
namespace Go.Proofs.YtaojbkphcnailaaDoor
open Go.Sx
set_option maxRecDepth 20000
set_option linter.unusedSimpArgs false
set_option linter.unusedVariables false
set_option maxHeartbeats 4000000
set_option linter.unusedVariables false
namespace Lx
def kdN (n:Nat):Int:=if n=32∨n=9∨n=10 then 0 else if 97≤n∧n≤122 then 1 else if 48≤n∧n≤57 then 2 else if n=40∨n=41∨n=59∨n=124∨n=61 then 3 else if n=35 then 4 else if n=58 then 5 else 6
def kd (c:UInt8):Int:=kdN c.toNat
theorem kd_all:∀ n:Nat,n<256→(decide (kd n.toUInt8=0)=isSp n.toUInt8)∧(decide (kd n.toUInt8=1)=isL n.toUInt8)∧(decide (kd n.toUInt8=2)=isD n.toUInt8)∧(decide (kd n.toUInt8=3)=isS n.toUInt8)∧(decide (kd n.toUInt8=4)=decide (n.toUInt8=35))∧(decide (kd n.toUInt8=5)=decide (n.toUInt8=58)):=by decide +kernel
theorem kd_is (c:UInt8):(decide (kd c=0)=isSp c)∧(decide (kd c=1)=isL c)∧(decide (kd c=2)=isD c)∧(decide (kd c=3)=isS c)∧(decide (kd c=4)=decide (c=35))∧(decide (kd c=5)=decide (c=58)):=by
  have:=kd_all c.toNat c.toNat_lt
  have e:c.toNat.toUInt8=c:=UInt8.ofNat_toNat
  rw [e] at this
  exact this
def valid (s:List UInt8):Bool:=!s.isEmpty&&decide (s.length≤3)&&s.all isD&&!(decide (1<s.length)&&decide (s.head?=some 48))
def numD (s:List UInt8):Int:=if valid s=true then (num s:Nat) else -1
theorem itoa_valid:∀ n:Nat,n<1000→valid (Lib.itoa (n:Nat))=true∧num (Lib.itoa (n:Nat))=n:=by decide +kernel
theorem valid1:∀ i:Nat,i<10→Lib.itoa (num [(48+i).toUInt8]:Nat)=[(48+i).toUInt8]∧num [(48+i).toUInt8]<1000:=by decide +kernel
theorem valid2:∀ i:Nat,i<10→∀ j:Nat,j<10→i≠0→Lib.itoa (num [(48+i).toUInt8,(48+j).toUInt8]:Nat)=[(48+i).toUInt8,(48+j).toUInt8]∧num [(48+i).toUInt8,(48+j).toUInt8]<1000:=by decide +kernel
theorem valid3:∀ i:Nat,i<10→∀ j:Nat,j<10→∀ k:Nat,k<10→i≠0→Lib.itoa (num [(48+i).toUInt8,(48+j).toUInt8,(48+k).toUInt8]:Nat)=[(48+i).toUInt8,(48+j).toUInt8,(48+k).toUInt8]∧num [(48+i).toUInt8,(48+j).toUInt8,(48+k).toUInt8]<1000:=by decide +kernel
theorem isD_ex {c:UInt8} (h:isD c=true):∃ i:Nat,i<10∧c=(48+i).toUInt8:=by
  unfold isD at h
  simp only [Bool.and_eq_true,decide_eq_true_eq] at h
  refine ⟨c.toNat - 48,by omega,?_⟩
  rw [show 48+(c.toNat - 48)=c.toNat by omega]
  exact UInt8.ofNat_toNat.symm
theorem valid_itoa {s:List UInt8} (h:valid s=true):Lib.itoa (num s:Nat)=s∧num s<1000:=by
  unfold valid at h
  simp only [Bool.and_eq_true,Bool.not_eq_true',decide_eq_true_eq] at h
  obtain ⟨⟨⟨h1,h2⟩,h3⟩,h4⟩:=h
  match s,h1,h2,h3,h4 with
  | [a],_,_,h3,_ =>
    obtain ⟨i,hi,rfl⟩:=isD_ex (by simpa using h3)
    exact valid1 i hi
  | [a,b],_,_,h3,h4 =>
    simp only [List.all_cons,List.all_nil,Bool.and_true,Bool.and_eq_true] at h3
    obtain ⟨i,hi,rfl⟩:=isD_ex h3.1
    obtain ⟨j,hj,rfl⟩:=isD_ex h3.2
    refine valid2 i hi j hj fun e=>?_
    subst e
    simp at h4
  | [a,b,c],_,_,h3,h4 =>
    simp only [List.all_cons,List.all_nil,Bool.and_true,Bool.and_eq_true] at h3
    obtain ⟨i,hi,rfl⟩:=isD_ex h3.1
    obtain ⟨j,hj,rfl⟩:=isD_ex h3.2.1
    obtain ⟨k,hk,rfl⟩:=isD_ex h3.2.2
    refine valid3 i hi j hj k hk fun e=>?_
    subst e
    simp at h4
  | _::_::_::_::_,_,h2,_,_=>simp at h2
theorem numD_hit {n:Nat} (h:n<1000):numD (Lib.itoa (n:Nat))=n:=by
  obtain ⟨h1,h2⟩:=itoa_valid n h
  unfold numD
  rw [if_pos h1,h2]
theorem numD_none {s:List UInt8} (h:∀ n:Nat,n<1000→Lib.itoa (n:Nat)≠s):numD s = -1:=by
  unfold numD
  split
  · rename_i hv
    have:=valid_itoa hv
    exact (h _ this.2 this.1).elim
  · rfl
end Lx
theorem refkind_c (c:UInt8):NCall Tryd.prog 61 [.int .u8 c.toNat] [] fun r _=>r = .int .i64 (Lx.kd c):=by
  unfold Lx.kd
  have hlt:=c.toNat_lt
  generalize c.toNat=n at *
  refine ncall_of Tryd.func61 rfl (by decide) ?_
  (repeat' (first|(with_reducible first|(refine hK _ _ ?_;clear hK K)|(refine hA ?_;clear hA hB A B)|(refine hB ?_;clear hA hB A B)|(refine hK _ ?_;clear hK K))|((with_reducible first|refine z25 ?_|refine z26 ?_);intro K hK;(conv=>whnf))|(with_reducible refine z0 ?_)|((first|((with_reducible refine NIf.decY ?s ?_);case s=>first|assumption|omega)|((with_reducible refine NIf.decN ?s ?_);case s=>first|assumption|omega)|((with_reducible refine NIf.yes ?s ?_);case s=>rfl)|((with_reducible refine NIf.no ?s ?_);case s=>rfl)|(with_reducible refine NIf.dec (fun _=>?_) (fun _=>?_)))<;>(conv=>whnf))|(with_reducible first|refine z3 ?_|refine z4 ?_|refine z6 ?_|refine z8 ?_)|((with_reducible refine z29 ?_);intro A B hA hB;(conv=>whnf))|(with_reducible first|refine z1 ?_|refine z2 ?_|refine z12 ?_)|((with_reducible refine gR ?_);(refine z31 rfl ?_;intro K hK;(conv=>whnf)))|((with_reducible refine gF ?_);(refine z33 rfl ?_;intro K hK;(conv=>whnf)))))
  all_goals
    unfold Lx.kdN
    repeat' split
    all_goals first | rfl | omega
theorem refsame_c (tx:List UInt8) (i:Nat) (hi:i<tx.length) (hs:tx.length≤10000) (k:Int) (hk:Lx.kd (tx.getD i 0)=k) :
    NCall Tryd.prog 64 [.str tx,.int .i64 i] [] fun r _=>r = .int .i64 (Lx.wl (fun d=>decide (Lx.kd d=k)) tx i:Nat):=by
  obtain ⟨h1,h2⟩:=Lx.tw_idx (fun d=>decide (Lx.kd d=k)) (tx.drop i)
  have hle:=Lx.wl_le (fun d=>decide (Lx.kd d=k)) tx i (by omega)
  have h1':∀ j,j<Lx.wl (fun d=>decide (Lx.kd d=k)) tx i→Lx.kd (tx.getD (i+j) 0)=k:=fun j hj=>by
    have:=(h1 j hj).2
    rw [Lx.getD_drop] at this
    simpa using this
  have h2':i+Lx.wl (fun d=>decide (Lx.kd d=k)) tx i=tx.length∨(i+Lx.wl (fun d=>decide (Lx.kd d=k)) tx i<tx.length∧¬ Lx.kd (tx.getD (i+Lx.wl (fun d=>decide (Lx.kd d=k)) tx i) 0)=k):=by
    rcases h2 with h | ⟨h,h'⟩
    · left;rw [List.length_drop] at h;unfold Lx.wl;omega
    · right
      rw [List.length_drop] at h
      rw [Lx.getD_drop] at h'
      exact ⟨by unfold Lx.wl;omega,of_decide_eq_false h'⟩
  clear h1 h2
  generalize Lx.wl (fun d=>decide (Lx.kd d=k)) tx i=w at *
  have c0:=refkind_c (tx.getD i 0)
  rw [hk] at c0
  refine ncall_of Tryd.func64 rfl (by decide) ?_
  (repeat' (first|(with_reducible first|(refine hK _ _ ?_;clear hK K)|(refine hK _ ?_;clear hK K))|((with_reducible refine z25 ?_);intro K hK;(conv=>whnf))|(with_reducible first|refine z0 ?_|refine z3 ?_|refine z4 ?_|refine z5 ?_|refine z1 ?_|refine z2 ?_)|((with_reducible refine gF ?_);(refine z33 rfl ?_;intro K hK;(conv=>whnf)))))
  refine st_auto (α:=Nat) (fun j=>j≤w) (fun j=>[.keep,.keep,.keep,.keep,.keep,.set (.int .i64 j),.drop,.drop,.drop,.drop,.drop,.drop,.drop,.drop,.drop,.drop,.drop,.drop,.drop,.drop,.drop,.drop,.drop,.drop,.drop,.drop,.drop,.keep]) (fun j=>[]) (fun j=>w - j) 0 (Nat.zero_le _) ?_ ?_ ?_
  · repeat (first|exact FitsSl.nil|refine FitsSl.any ?_|refine FitsSl.cons (Fit1.int (by first | rfl | omega)) ?_|refine FitsSl.cons (Fit1.str rfl) ?_)
  · exact MemFits.eq rfl
  (intro j hj;intro K hK;(conv=>whnf);refine hK _ _ ?_;clear hK K)
  by_cases hlt:j<w
  · have hc:=refkind_c (tx.getD (i+j) 0)
    rw [h1' j hlt,show i+j=((i:Int)+(j:Int)).toNat by omega] at hc
    (repeat' (first|(with_reducible first|(refine hK _ _ ?_;clear hK K)|(refine hA ?_;clear hA hB A B)|(refine hK _ ?_;clear hK K))|((with_reducible refine z25 ?_);intro K hK;(conv=>whnf))|(with_reducible refine z0 ?_)|((first|((with_reducible refine NV.i64 ?s ?_);case s=>omega)|((with_reducible refine NIf.decY ?s ?_);case s=>first|with_reducible rfl|omega)|(with_reducible first|refine NN.cast ?_|refine NN.keep ?_)|((with_reducible refine NH.mk ?s ?_);case s=>(and_intros<;>omega))|((with_reducible refine NCall.isF 61 ?_);refine NCall.pureE (hc) ?_)|((with_reducible refine NCall.isF 61 ?_);refine NCall.pureE (c0) ?_))<;>(conv=>whnf))|((with_reducible refine gNO ?_);(first|(refine z36 rfl (by kernel_rfl) ?_;intro K hK;(conv=>whnf))|(refine z37 rfl (by kernel_rfl) ?_;intro K hK;(conv=>whnf))|refine z38 rfl (by kernel_rfl) ?_|refine z39 rfl rfl (by kernel_rfl) (by intro h;cases h) ?_))|((with_reducible refine gNE ?_);(first|(refine z41 ?_ ?_;(intro K hK;(conv=>whnf)))|exact z42))|((with_reducible refine gX ?_);(first|refine z35 (by kernel_rfl) _ rfl ?_|(with_reducible first|refine z3 ?_|refine z4 ?_|refine z5 ?_|refine z6 ?_)|((with_reducible refine z29 ?_);intro A B hA hB;(conv=>whnf))))|(with_reducible first|refine z1 ?_|refine z2 ?_|refine z9 ?_)))
    refine st_round (j+1) hlt (by omega) ?_ (MemFits.eq rfl)
    repeat (first|exact FitsSl.nil|refine FitsSl.any ?_|refine FitsSl.cons (Fit1.int (by first | rfl | omega)) ?_|refine FitsSl.cons (Fit1.str rfl) ?_)
  · obtain rfl:j=w:=by omega
    rcases h2' with h | ⟨h,hp⟩
    · (repeat' (first|(with_reducible first|(refine hK _ _ ?_;clear hK K)|(refine hB ?_;clear hA hB A B)|(refine hK _ ?_;clear hK K))|((with_reducible refine z25 ?_);intro K hK;(conv=>whnf))|(with_reducible refine z0 ?_)|((first|((with_reducible refine NV.i64 ?s ?_);case s=>omega)|((with_reducible refine NIf.decN ?s ?_);case s=>omega)|((with_reducible refine NIf.no ?s ?_);case s=>rfl))<;>(conv=>whnf))|((with_reducible refine gNO ?_);(first|(refine z36 rfl (by kernel_rfl) ?_;intro K hK;(conv=>whnf))|(refine z37 rfl (by kernel_rfl) ?_;intro K hK;(conv=>whnf))|refine z38 rfl (by kernel_rfl) ?_|refine z39 rfl rfl (by kernel_rfl) (by intro h;cases h) ?_))|((with_reducible refine gNE ?_);(first|(refine z41 ?_ ?_;(intro K hK;(conv=>whnf)))|exact z42))|((with_reducible refine gX ?_);(first|refine z35 (by kernel_rfl) _ rfl ?_|(with_reducible first|refine z3 ?_|refine z4 ?_|refine z7 ?_|refine z8 ?_)|((with_reducible refine z29 ?_);intro A B hA hB;(conv=>whnf))))|(with_reducible first|refine z1 ?_|refine z2 ?_|refine z10 ?_|refine z11 ?_|refine z19 ?_)|((with_reducible refine gR ?_);(refine z31 rfl ?_;intro K hK;(conv=>whnf)))))
      all_goals rfl
    · have hc:=refkind_c (tx.getD (i+j) 0)
      generalize Lx.kd (tx.getD (i+j) 0)=k2 at *
      rw [show i+j=((i:Int)+(j:Int)).toNat by omega] at hc
      (repeat' (first|(with_reducible first|(refine hK _ _ ?_;clear hK K)|(refine hB ?_;clear hA hB A B)|(refine hK _ ?_;clear hK K))|((with_reducible refine z25 ?_);intro K hK;(conv=>whnf))|(with_reducible refine z0 ?_)|((first|((with_reducible refine NV.i64 ?s ?_);case s=>omega)|((with_reducible refine NIf.decY ?s ?_);case s=>omega)|((with_reducible refine NIf.decN ?s ?_);case s=>assumption)|(with_reducible first|refine NN.cast ?_|refine NN.keep ?_)|((with_reducible refine NH.mk ?s ?_);case s=>(and_intros<;>omega))|((with_reducible refine NCall.isF 61 ?_);refine NCall.pureE (hc) ?_)|((with_reducible refine NCall.isF 61 ?_);refine NCall.pureE (c0) ?_))<;>(conv=>whnf))|((with_reducible refine gNO ?_);(first|(refine z36 rfl (by kernel_rfl) ?_;intro K hK;(conv=>whnf))|(refine z37 rfl (by kernel_rfl) ?_;intro K hK;(conv=>whnf))|refine z38 rfl (by kernel_rfl) ?_|refine z39 rfl rfl (by kernel_rfl) (by intro h;cases h) ?_))|((with_reducible refine gNE ?_);(first|(refine z41 ?_ ?_;(intro K hK;(conv=>whnf)))|exact z42))|((with_reducible refine gX ?_);(first|refine z35 (by kernel_rfl) _ rfl ?_|(with_reducible first|refine z3 ?_|refine z4 ?_|refine z7 ?_|refine z8 ?_)|((with_reducible refine z29 ?_);intro A B hA hB;(conv=>whnf))))|(with_reducible first|refine z1 ?_|refine z2 ?_|refine z10 ?_|refine z11 ?_|refine z19 ?_)|((with_reducible refine gR ?_);(refine z31 rfl ?_;intro K hK;(conv=>whnf)))))
      all_goals rfl
theorem refremark_c (tx:List UInt8) (i:Nat) (hi:i≤tx.length) (hs:tx.length≤10000) :
    NCall Tryd.prog 62 [.str tx,.int .i64 i] [] fun r _=>r = .int .i64 (Lx.wl Lx.notNl tx i:Nat):=by
  obtain ⟨h1,h2⟩:=Lx.tw_idx Lx.notNl (tx.drop i)
  have hle:=Lx.wl_le Lx.notNl tx i hi
  have h1':∀ j,j<Lx.wl Lx.notNl tx i→(tx.getD (i+j) 0).toNat≠10:=fun j hj=>by
    have:=(h1 j hj).2
    rw [Lx.getD_drop,nl_dec] at this
    simpa using this
  have h2':i+Lx.wl Lx.notNl tx i=tx.length∨(i+Lx.wl Lx.notNl tx i<tx.length∧(tx.getD (i+Lx.wl Lx.notNl tx i) 0).toNat=10):=by
    rcases h2 with h | ⟨h,h'⟩
    · left;rw [List.length_drop] at h;unfold Lx.wl;omega
    · right
      rw [List.length_drop] at h
      rw [Lx.getD_drop,nl_dec] at h'
      exact ⟨by unfold Lx.wl;omega,by have:=of_decide_eq_false h';unfold Lx.wl;omega⟩
  clear h1 h2
  generalize Lx.wl Lx.notNl tx i=w at *
  refine ncall_of Tryd.func62 rfl (by decide) ?_
  (repeat' (first|(with_reducible first|(refine hK _ _ ?_;clear hK K)|(refine hK _ ?_;clear hK K))|((with_reducible refine z25 ?_);intro K hK;(conv=>whnf))|(with_reducible first|refine z0 ?_|refine z3 ?_|refine z4 ?_|refine z5 ?_|refine z1 ?_|refine z2 ?_)|((with_reducible refine gF ?_);(refine z33 rfl ?_;intro K hK;(conv=>whnf)))))
  refine st_auto (α:=Nat) (fun j=>j≤w) (fun j=>[.keep,.keep,.keep,.keep,.keep,.set (.int .i64 j),.drop,.drop,.drop,.drop,.drop,.drop,.drop,.drop,.drop,.drop,.drop,.drop,.drop,.drop,.drop,.drop,.keep]) (fun j=>[]) (fun j=>w - j) 0 (Nat.zero_le _) ?_ ?_ ?_
  · repeat (first|exact FitsSl.nil|refine FitsSl.any ?_|refine FitsSl.cons (Fit1.int (by first | rfl | omega)) ?_|refine FitsSl.cons (Fit1.str rfl) ?_)
  · exact MemFits.eq rfl
  (intro j hj;intro K hK;(conv=>whnf);refine hK _ _ ?_;clear hK K)
  by_cases hlt:j<w
  · have hc:=h1' j hlt
    rw [show i+j=((i:Int)+(j:Int)).toNat by omega] at hc
    (repeat' (first|(with_reducible first|(refine hK _ _ ?_;clear hK K)|(refine hA ?_;clear hA hB A B))|((with_reducible first|refine z25 ?_|refine z26 ?_);intro K hK;(conv=>whnf))|(with_reducible refine z0 ?_)|((first|((with_reducible refine NV.i64 ?s ?_);case s=>omega)|with_reducible refine NIf.not_ ?_|((with_reducible refine NIf.decY ?s ?_);case s=>omega)|((with_reducible refine NIf.decN ?s ?_);case s=>omega)|(with_reducible refine NN.keep ?_)|((with_reducible refine NH.mk ?s ?_);case s=>(and_intros<;>omega)))<;>(conv=>whnf))|(with_reducible first|refine z3 ?_|refine z4 ?_|refine z5 ?_|refine z6 ?_)|((with_reducible refine z29 ?_);intro A B hA hB;(conv=>whnf))|(with_reducible first|refine z1 ?_|refine z2 ?_|refine z9 ?_)))
    refine st_round (j+1) hlt (by omega) ?_ (MemFits.eq rfl)
    repeat (first|exact FitsSl.nil|refine FitsSl.any ?_|refine FitsSl.cons (Fit1.int (by first | rfl | omega)) ?_|refine FitsSl.cons (Fit1.str rfl) ?_)
  · obtain rfl:j=w:=by omega
    rcases h2' with h | ⟨h,hp⟩
    · (repeat' (first|(with_reducible first|(refine hK _ _ ?_;clear hK K)|(refine hB ?_;clear hA hB A B)|(refine hK _ ?_;clear hK K))|((with_reducible first|refine z25 ?_|refine z26 ?_);intro K hK;(conv=>whnf))|(with_reducible refine z0 ?_)|((first|((with_reducible refine NV.i64 ?s ?_);case s=>omega)|((with_reducible refine NIf.decN ?s ?_);case s=>omega)|((with_reducible refine NIf.no ?s ?_);case s=>rfl))<;>(conv=>whnf))|(with_reducible first|refine z3 ?_|refine z4 ?_|refine z7 ?_|refine z8 ?_)|((with_reducible refine z29 ?_);intro A B hA hB;(conv=>whnf))|(with_reducible first|refine z1 ?_|refine z2 ?_|refine z10 ?_|refine z11 ?_|refine z19 ?_)|((with_reducible refine gR ?_);(refine z31 rfl ?_;intro K hK;(conv=>whnf)))))
      all_goals rfl
    · rw [show i+j=((i:Int)+(j:Int)).toNat by omega] at hp
      (repeat' (first|(with_reducible first|(refine hK _ _ ?_;clear hK K)|(refine hB ?_;clear hA hB A B)|(refine hK _ ?_;clear hK K))|((with_reducible first|refine z25 ?_|refine z26 ?_);intro K hK;(conv=>whnf))|(with_reducible refine z0 ?_)|((first|((with_reducible refine NV.i64 ?s ?_);case s=>omega)|with_reducible refine NIf.not_ ?_|((with_reducible refine NIf.decY ?s ?_);case s=>omega)|(with_reducible refine NN.keep ?_)|((with_reducible refine NH.mk ?s ?_);case s=>(and_intros<;>omega)))<;>(conv=>whnf))|(with_reducible first|refine z3 ?_|refine z4 ?_|refine z7 ?_|refine z8 ?_)|((with_reducible refine z29 ?_);intro A B hA hB;(conv=>whnf))|(with_reducible first|refine z1 ?_|refine z2 ?_|refine z10 ?_|refine z11 ?_|refine z19 ?_)|((with_reducible refine gR ?_);(refine z31 rfl ?_;intro K hK;(conv=>whnf)))))
      all_goals rfl
theorem refnumber_c (d:List UInt8) (hd:d.length≤10000):NCall Tryd.prog 86 [.str d] [] fun r _=>r = .int .i64 (Lx.numD d):=by
  refine ncall_of Tryd.func86 rfl (by decide) ?_
  (repeat' (first|(with_reducible first|(refine hK _ _ ?_;clear hK K)|(refine hK _ ?_;clear hK K))|((with_reducible refine z25 ?_);intro K hK;(conv=>whnf))|(with_reducible first|refine z0 ?_|refine z3 ?_|refine z4 ?_|refine z5 ?_|refine z1 ?_|refine z2 ?_)|((with_reducible refine gF ?_);(refine z33 rfl ?_;intro K hK;(conv=>whnf)))))
  refine st_auto (α:=Nat) (fun n=>n≤1000∧∀ k:Nat,k<n→Lib.itoa (k:Nat)≠d) (fun n=>[.keep,.keep,.drop,.set (.int .i64 n),.drop,.drop,.drop,.drop,.drop,.drop,.drop,.drop,.drop]) (fun _=>[]) (fun n=>1000 - n) 0 ⟨Nat.zero_le _,fun k hk=>by omega⟩ ?_ ?_ ?_
  · repeat (first|exact FitsSl.nil|refine FitsSl.any ?_|refine FitsSl.cons (Fit1.int (by first | rfl | omega)) ?_|refine FitsSl.cons (Fit1.str rfl) ?_)
  · exact MemFits.eq rfl
  (intro n ⟨hn,hne⟩;intro K hK;(conv=>whnf);refine hK _ _ ?_;clear hK K)
  by_cases hlt:n<1000
  · have hc:=digits_c (n:Nat) (by omega)
    have hhit:=Lx.numD_hit hlt
    generalize heq:Lib.itoa (n:Nat)=t at *
    by_cases he:t=d
    · subst he
      (repeat' (first|(with_reducible first|(refine hK _ _ ?_;clear hK K)|(refine hA ?_;clear hA hB A B)|(refine hK _ ?_;clear hK K))|((with_reducible refine z25 ?_);intro K hK;(conv=>whnf))|(with_reducible refine z0 ?_)|((first|((with_reducible refine NIf.decY ?s ?_);case s=>first|with_reducible rfl|omega)|((with_reducible refine NCall.isF 39 ?_);refine NCall.pureE (hc) ?_))<;>(conv=>whnf))|(with_reducible first|refine z3 ?_|refine z4 ?_|refine z5 ?_|refine z6 ?_|refine z8 ?_)|((with_reducible refine z29 ?_);intro A B hA hB;(conv=>whnf))|(with_reducible first|refine z1 ?_|refine z2 ?_|refine z12 ?_|refine z13 ?_|refine z20 ?_)|((with_reducible refine gR ?_);(refine z31 rfl ?_;intro K hK;(conv=>whnf)))))
      all_goals rw [hhit]
    · (repeat' (first|(with_reducible first|(refine hK _ _ ?_;clear hK K)|(refine hA ?_;clear hA hB A B)|(refine hB ?_;clear hA hB A B))|((with_reducible refine z25 ?_);intro K hK;(conv=>whnf))|(with_reducible refine z0 ?_)|((first|((with_reducible refine NV.i64 ?s ?_);case s=>omega)|((with_reducible refine NIf.decY ?s ?_);case s=>omega)|((with_reducible refine NIf.decN ?s ?_);case s=>assumption)|((with_reducible refine NCall.isF 39 ?_);refine NCall.pureE (hc) ?_))<;>(conv=>whnf))|(with_reducible first|refine z3 ?_|refine z4 ?_|refine z5 ?_|refine z6 ?_)|((with_reducible refine z29 ?_);intro A B hA hB;(conv=>whnf))|(with_reducible first|refine z1 ?_|refine z2 ?_|refine z9 ?_)))
      refine st_round (n+1) ⟨hlt,fun k hk=>?_⟩ (by omega) ?_ (MemFits.eq rfl)
      · rcases Nat.lt_or_ge k n with h | h
        · exact hne k h
        · obtain rfl:k=n:=by omega
          rw [heq];exact he
      · repeat (first|exact FitsSl.nil|refine FitsSl.any ?_|refine FitsSl.cons (Fit1.int (by first | rfl | omega)) ?_|refine FitsSl.cons (Fit1.str rfl) ?_)
  · have hnone:=Lx.numD_none (s:=d) fun k hk=>hne k (by omega)
    (repeat' (first|(with_reducible first|(refine hK _ _ ?_;clear hK K)|(refine hB ?_;clear hA hB A B)|(refine hK _ ?_;clear hK K))|((with_reducible refine z25 ?_);intro K hK;(conv=>whnf))|(with_reducible refine z0 ?_)|(((with_reducible refine NIf.decN ?s ?_);case s=>omega)<;>(conv=>whnf))|(with_reducible first|refine z3 ?_|refine z4 ?_|refine z7 ?_|refine z8 ?_)|((with_reducible refine z29 ?_);intro A B hA hB;(conv=>whnf))|(with_reducible first|refine z1 ?_|refine z2 ?_|refine z10 ?_|refine z11 ?_|refine z19 ?_)|((with_reducible refine gR ?_);(refine z31 rfl ?_;intro K hK;(conv=>whnf)))))
    all_goals rw [hnone]
end Go.Proofs.YtaojbkphcnailaaDoor
namespace Go.Proofs.YtaojbkphcnailaaDoor
open Go.Sx
set_option maxRecDepth 20000
set_option linter.unusedSimpArgs false
set_option linter.unusedVariables false
set_option maxHeartbeats 4000000
set_option linter.unusedVariables false
namespace Lx
def tokO (tx:List UInt8) (i:Nat):B:=match nextB (tx.drop i) with
  | none=>⟨0,0,[]⟩
  | some (b,_)=>b
theorem kd_L:(fun d=>decide (kd d=1))=isL:=funext fun c=>(kd_is c).2.1
theorem kd_D:(fun d=>decide (kd d=2))=isD:=funext fun c=>(kd_is c).2.2.1
theorem tw_wl (p:UInt8→Bool) (tx:List UInt8) (i:Nat):(tx.drop i).take (wl p tx i)=(tx.drop i).takeWhile p:=(tw_take _ _).1
theorem next_kd (tx:List UInt8) (i:Nat) (hi:i<tx.length) :
    nextB (tx.drop i) =
      if kd (tx.getD i 0)=1 then some (⟨1,0,(tx.drop i).takeWhile isL⟩,wl isL tx i)
      else if kd (tx.getD i 0)=2 then (if 0≤numD ((tx.drop i).takeWhile isD) then some (⟨2,numD ((tx.drop i).takeWhile isD),[]⟩,wl isD tx i) else none)
      else if kd (tx.getD i 0)=3 then some (⟨3,0,[tx.getD i 0]⟩,1)
      else if kd (tx.getD i 0)=5∧i+1<tx.length∧(tx.getD (i+1) 0).toNat=61 then some (⟨3,0,[58,61]⟩,2)
      else none:=by
  have hd:=drop_getD tx i hi
  obtain ⟨k0,k1,k2,k3,k4,k5⟩:=kd_is (tx.getD i 0)
  have hw1:wl isL tx i=((tx.drop i).takeWhile isL).length:=rfl
  have hw2:wl isD tx i=((tx.drop i).takeWhile isD).length:=rfl
  rw [hw1,hw2,hd]
  have hh:(tx.drop (i+1)).head?=some 61↔i+1<tx.length∧(tx.getD (i+1) 0).toNat=61:=by
    rcases Nat.lt_or_ge (i+1) tx.length with h | h
    · rw [drop_getD tx (i+1) h,List.head?_cons]
      constructor
      · intro e
        injection e with e
        exact ⟨h,by rw [e];rfl⟩
      · rintro ⟨_,e⟩
        rw [show tx.getD (i+1) 0=61 from UInt8.toNat_inj.1 e]
    · rw [List.drop_eq_nil_of_le h]
      constructor
      · intro e;cases e
      · rintro ⟨e,_⟩;omega
  generalize tx.drop (i+1)=r at *
  generalize tx.getD i 0=c at *
  rw [nextB_eq]
  by_cases h1:kd c=1
  · rw [decide_eq_true h1] at k1
    rw [if_pos k1.symm,if_pos h1]
  rw [decide_eq_false h1] at k1
  rw [if_neg (by rw [← k1];decide),if_neg h1]
  by_cases h2:kd c=2
  · rw [decide_eq_true h2] at k2
    rw [if_pos k2.symm,if_pos h2]
    obtain ⟨a,ha⟩:∃ a,(c::r).takeWhile isD=c::a:=⟨_,List.takeWhile_cons_of_pos k2.symm⟩
    have hall:((c::r).takeWhile isD).all isD=true:=List.all_eq_true.2 fun x hx=>tw_all hx
    rw [ha] at hall ⊢
    unfold numD valid
    rw [hall]
    by_cases hv:3<(c::a).length∨(1<(c::a).length∧c=48)
    · rw [if_pos hv,if_neg]
      rw [if_neg]
      · decide
      · intro e
        simp only [Bool.and_eq_true,Bool.not_eq_true',decide_eq_true_eq,Bool.and_eq_false_iff,decide_eq_false_iff_not,List.head?_cons] at e
        obtain ⟨⟨⟨_,e1⟩,_⟩,e2⟩:=e
        rcases hv with hv | ⟨hv,hc⟩
        · omega
        · rcases e2 with e2 | e2
          · exact e2 hv
          · rw [hc] at e2;simp at e2
    · have hval:(!(c::a).isEmpty&&decide ((c::a).length≤3)&&true&&!(decide (1<(c::a).length)&&decide ((c::a).head?=some 48)))=true:=by
        have h3:(c::a).length≤3:=by
          rcases Nat.lt_or_ge 3 (c::a).length with h | h
          · exact (hv (.inl h)).elim
          · exact h
        rw [decide_eq_true h3]
        by_cases h4:1<(c::a).length
        · have:¬ c=48:=fun e=>hv (.inr ⟨h4,e⟩)
          simp [this]
        · rw [decide_eq_false h4];rfl
      rw [if_neg hv,if_pos hval,if_pos (by omega)]
  rw [decide_eq_false h2] at k2
  rw [if_neg (by rw [← k2];decide),if_neg h2]
  by_cases h3:kd c=3
  · rw [decide_eq_true h3] at k3
    have hc:¬ c=58:=fun e=>by rw [e] at k3;revert k3;decide
    rw [if_neg (fun e=>hc e.1),if_pos k3.symm,if_pos h3]
  rw [decide_eq_false h3] at k3
  rw [if_neg h3]
  have h5:kd c=5↔c=58:=by
    constructor
    · intro e
      rw [decide_eq_true e] at k5
      exact of_decide_eq_true k5.symm
    · intro e
      rw [decide_eq_true e] at k5
      exact of_decide_eq_true k5
  by_cases h6:c=58∧r.head?=some 61
  · rw [if_pos h6,if_pos ⟨h5.2 h6.1,hh.1 h6.2⟩]
  · rw [if_neg h6,if_neg (by rw [← k3];decide),if_neg (fun e=>h6 ⟨h5.1 e.1,hh.2 e.2⟩)]
end Lx
theorem reftoken_c (tx:List UInt8) (i:Nat) (hi:i<tx.length) (hs:tx.length≤10000) :
    NCall Tryd.prog 63 [.str tx,.int .i64 i] [] fun r _=>r = .agg [.int .i64 (Lx.tokO tx i).k,.int .i64 (Lx.tokO tx i).n,.str (Lx.tokO tx i).s,.int .i64 i]:=by
  unfold Lx.tokO
  rw [Lx.next_kd tx i hi]
  have ck:=refkind_c (tx.getD i 0)
  have cs:=refsame_c tx i hi hs _ rfl
  have hL:=Lx.tw_wl Lx.isL tx i
  have hD:=Lx.tw_wl Lx.isD tx i
  have leL:=Lx.wl_le Lx.isL tx i (by omega)
  have leD:=Lx.wl_le Lx.isD tx i (by omega)
  have hdl:((tx.drop i).takeWhile Lx.isD).length≤10000:=by
    have:Lx.wl Lx.isD tx i=((tx.drop i).takeWhile Lx.isD).length:=rfl
    omega
  have cn:=refnumber_c ((tx.drop i).takeWhile Lx.isD) hdl
  by_cases h1:Lx.kd (tx.getD i 0)=1
  · rw [if_pos h1]
    rw [h1] at ck cs
    rw [Lx.kd_L] at cs
    generalize Lx.wl Lx.isL tx i=w at *
    generalize (tx.drop i).takeWhile Lx.isL=d at *
    have e1:(tx.drop i).take (i+w - i)=d:=by rw [show i+w - i=w by omega];exact hL
    refine ncall_of Tryd.func63 rfl (by decide) ?_
    (repeat' (first|(with_reducible first|(refine hK _ _ ?_;clear hK K)|(refine hA ?_;clear hA hB A B)|(refine hK _ ?_;clear hK K))|((with_reducible refine z25 ?_);intro K hK;(conv=>whnf))|(with_reducible refine z0 ?_)|((first|((with_reducible refine NV.i64 ?s ?_);case s=>omega)|((with_reducible refine NIf.decY ?s ?_);case s=>with_reducible rfl)|((with_reducible refine NN.eq (n:=i+w) ?side ?_);case side=>omega)|(with_reducible refine NN.cast ?_)|((with_reducible refine NH.mk ?s ?_);case s=>(and_intros<;>first|with_reducible rfl|((with_reducible refine gOnes ?_);rfl)|((with_reducible refine gLen ?_);rfl)|omega))|((with_reducible refine NCall.isF 61 ?_);refine NCall.pureE (ck) ?_)|((with_reducible refine NCall.isF 64 ?_);refine NCall.pureE (cs) ?_)|(with_reducible refine NS.eq (e1) ?_))<;>(conv=>whnf))|(with_reducible first|refine z3 ?_|refine z4 ?_|refine z8 ?_)|((with_reducible refine z29 ?_);intro A B hA hB;(conv=>whnf))|(with_reducible first|refine z1 ?_|refine z2 ?_|refine z12 ?_)|((with_reducible refine gR ?_);(refine z31 rfl ?_;intro K hK;(conv=>whnf)))|((with_reducible refine gF ?_);(refine z33 rfl ?_;intro K hK;(conv=>whnf)))|((intro _;skip)<;>(conv=>whnf))))
    all_goals rfl
  rw [if_neg h1]
  by_cases h2:Lx.kd (tx.getD i 0)=2
  · rw [if_pos h2]
    rw [h2] at ck cs
    rw [Lx.kd_D] at cs
    generalize Lx.wl Lx.isD tx i=w at *
    generalize (tx.drop i).takeWhile Lx.isD=d at *
    generalize Lx.numD d=q at *
    have e1:(tx.drop i).take (i+w - i)=d:=by rw [show i+w - i=w by omega];exact hD
    refine ncall_of Tryd.func63 rfl (by decide) ?_
    by_cases hq:0≤q
    · rw [if_pos hq]
      (repeat' (first|(with_reducible first|(refine hK _ _ ?_;clear hK K)|(refine hA ?_;clear hA hB A B)|(refine hB ?_;clear hA hB A B)|(refine hK _ ?_;clear hK K))|((with_reducible refine z25 ?_);intro K hK;(conv=>whnf))|(with_reducible refine z0 ?_)|((first|((with_reducible refine NV.i64 ?s ?_);case s=>omega)|((with_reducible refine NIf.decY ?s ?_);case s=>first|with_reducible rfl|assumption)|((with_reducible refine NIf.decN ?s ?_);case s=>omega)|((with_reducible refine NN.eq (n:=i+w) ?side ?_);case side=>omega)|(with_reducible refine NN.cast ?_)|((with_reducible refine NH.mk ?s ?_);case s=>(and_intros<;>first|with_reducible rfl|((with_reducible refine gOnes ?_);rfl)|((with_reducible refine gLen ?_);rfl)|omega))|((with_reducible refine NCall.isF 61 ?_);refine NCall.pureE (ck) ?_)|((with_reducible refine NCall.isF 64 ?_);refine NCall.pureE (cs) ?_)|((with_reducible refine NCall.isF 86 ?_);refine NCall.pureE (cn) ?_)|(with_reducible refine NS.eq (e1) ?_))<;>(conv=>whnf))|(with_reducible first|refine z3 ?_|refine z4 ?_|refine z6 ?_|refine z8 ?_)|((with_reducible refine z29 ?_);intro A B hA hB;(conv=>whnf))|(with_reducible first|refine z1 ?_|refine z2 ?_|refine z12 ?_)|((with_reducible refine gR ?_);(refine z31 rfl ?_;intro K hK;(conv=>whnf)))|((with_reducible refine gF ?_);(refine z33 rfl ?_;intro K hK;(conv=>whnf)))|((intro _;skip)<;>(conv=>whnf))))
      all_goals rfl
    · rw [if_neg hq]
      (repeat' (first|(with_reducible first|(refine hK _ _ ?_;clear hK K)|(refine hA ?_;clear hA hB A B)|(refine hB ?_;clear hA hB A B)|(refine hK _ ?_;clear hK K))|((with_reducible first|refine z25 ?_|refine z26 ?_);intro K hK;(conv=>whnf))|(with_reducible refine z0 ?_)|((first|((with_reducible refine NV.i64 ?s ?_);case s=>omega)|((with_reducible refine NIf.decY ?s ?_);case s=>with_reducible rfl)|((with_reducible refine NIf.decN ?s ?_);case s=>first|assumption|omega)|((with_reducible refine NIf.no ?s ?_);case s=>rfl)|((with_reducible refine NN.eq (n:=i+w) ?side ?_);case side=>omega)|(with_reducible refine NN.cast ?_)|((with_reducible refine NH.mk ?s ?_);case s=>(and_intros<;>first|with_reducible rfl|((with_reducible refine gOnes ?_);rfl)|((with_reducible refine gLen ?_);rfl)|omega))|((with_reducible refine NCall.isF 61 ?_);refine NCall.pureE (ck) ?_)|((with_reducible refine NCall.isF 64 ?_);refine NCall.pureE (cs) ?_)|((with_reducible refine NCall.isF 86 ?_);refine NCall.pureE (cn) ?_)|(with_reducible refine NS.eq (e1) ?_))<;>(conv=>whnf))|(with_reducible first|refine z3 ?_|refine z4 ?_|refine z6 ?_|refine z8 ?_)|((with_reducible refine z29 ?_);intro A B hA hB;(conv=>whnf))|(with_reducible first|refine z1 ?_|refine z2 ?_)|((with_reducible refine gR ?_);(refine z31 rfl ?_;intro K hK;(conv=>whnf)))|((with_reducible refine gF ?_);(refine z33 rfl ?_;intro K hK;(conv=>whnf)))|((intro _;skip)<;>(conv=>whnf))))
      all_goals rfl
  rw [if_neg h2]
  clear cs
  by_cases h3:Lx.kd (tx.getD i 0)=3
  · rw [if_pos h3]
    rw [h3] at ck
    have e1:(tx.drop i).take (i+1 - i)=[tx.getD i 0]:=by rw [show i+1 - i=1 by omega,Lx.drop_getD tx i hi];rfl
    refine ncall_of Tryd.func63 rfl (by decide) ?_
    (repeat' (first|(with_reducible first|(refine hK _ _ ?_;clear hK K)|(refine hA ?_;clear hA hB A B)|(refine hB ?_;clear hA hB A B)|(refine hK _ ?_;clear hK K))|((with_reducible refine z25 ?_);intro K hK;(conv=>whnf))|(with_reducible refine z0 ?_)|((first|((with_reducible refine NV.i64 ?s ?_);case s=>omega)|((with_reducible refine NIf.decY ?s ?_);case s=>with_reducible rfl)|((with_reducible refine NIf.decN ?s ?_);case s=>omega)|((with_reducible refine NN.eq (n:=i+1) ?side ?_);case side=>omega)|(with_reducible refine NN.cast ?_)|((with_reducible refine NH.mk ?s ?_);case s=>(and_intros<;>first|with_reducible rfl|((with_reducible refine gOnes ?_);rfl)|((with_reducible refine gLen ?_);rfl)|omega))|((with_reducible refine NCall.isF 61 ?_);refine NCall.pureE (ck) ?_)|(with_reducible refine NS.eq (e1) ?_))<;>(conv=>whnf))|(with_reducible first|refine z3 ?_|refine z4 ?_|refine z6 ?_|refine z8 ?_)|((with_reducible refine z29 ?_);intro A B hA hB;(conv=>whnf))|(with_reducible first|refine z1 ?_|refine z2 ?_|refine z12 ?_)|((with_reducible refine gR ?_);(refine z31 rfl ?_;intro K hK;(conv=>whnf)))|((with_reducible refine gF ?_);(refine z33 rfl ?_;intro K hK;(conv=>whnf)))|((intro _;skip)<;>(conv=>whnf))))
    all_goals rfl
  rw [if_neg h3]
  refine ncall_of Tryd.func63 rfl (by decide) ?_
  by_cases h5:Lx.kd (tx.getD i 0)=5
  · have e2:((i:Int)+1).toNat=i+1:=by omega
    rw [h5] at ck
    by_cases h6:i+1<tx.length
    · by_cases h7:(tx.getD (i+1) 0).toNat=61
      · rw [if_pos ⟨h5,h6,h7⟩]
        rw [← e2] at h7
        (repeat' (first|(with_reducible first|(refine hK _ _ ?_;clear hK K)|(refine hA ?_;clear hA hB A B)|(refine hB ?_;clear hA hB A B)|(refine hK _ ?_;clear hK K))|((with_reducible first|refine z25 ?_|refine z26 ?_);intro K hK;(conv=>whnf))|(with_reducible refine z0 ?_)|((first|((with_reducible refine NV.i64 ?s ?_);case s=>omega)|((with_reducible refine NIf.decY ?s ?_);case s=>first|with_reducible rfl|omega)|((with_reducible refine NIf.decN ?s ?_);case s=>omega)|(with_reducible first|refine NN.cast ?_|refine NN.keep ?_)|((with_reducible refine NH.mk ?s ?_);case s=>(and_intros<;>first|with_reducible rfl|((with_reducible refine gOnes ?_);rfl)|((with_reducible refine gLen ?_);rfl)|omega))|((with_reducible refine NCall.isF 61 ?_);refine NCall.pureE (ck) ?_))<;>(conv=>whnf))|(with_reducible first|refine z3 ?_|refine z4 ?_|refine z6 ?_|refine z8 ?_)|((with_reducible refine z29 ?_);intro A B hA hB;(conv=>whnf))|(with_reducible first|refine z1 ?_|refine z2 ?_|refine z12 ?_)|((with_reducible refine gR ?_);(refine z31 rfl ?_;intro K hK;(conv=>whnf)))|((with_reducible refine gF ?_);(refine z33 rfl ?_;intro K hK;(conv=>whnf)))|((intro _;skip)<;>(conv=>whnf))))
        all_goals rfl
      · rw [if_neg (fun e=>h7 e.2.2)]
        rw [← e2] at h7
        (repeat' (first|(with_reducible first|(refine hK _ _ ?_;clear hK K)|(refine hB ?_;clear hA hB A B)|(refine hK _ ?_;clear hK K))|((with_reducible first|refine z25 ?_|refine z26 ?_);intro K hK;(conv=>whnf))|(with_reducible refine z0 ?_)|((first|((with_reducible refine NV.i64 ?s ?_);case s=>omega)|((with_reducible refine NIf.decY ?s ?_);case s=>first|with_reducible rfl|omega)|((with_reducible refine NIf.decN ?s ?_);case s=>omega)|(with_reducible first|refine NN.cast ?_|refine NN.keep ?_)|((with_reducible refine NH.mk ?s ?_);case s=>(and_intros<;>first|with_reducible rfl|((with_reducible refine gOnes ?_);rfl)|((with_reducible refine gLen ?_);rfl)|omega))|((with_reducible refine NCall.isF 61 ?_);refine NCall.pureE (ck) ?_))<;>(conv=>whnf))|(with_reducible first|refine z3 ?_|refine z4 ?_|refine z6 ?_|refine z8 ?_)|((with_reducible refine z29 ?_);intro A B hA hB;(conv=>whnf))|(with_reducible first|refine z1 ?_|refine z2 ?_)|((with_reducible refine gR ?_);(refine z31 rfl ?_;intro K hK;(conv=>whnf)))|((with_reducible refine gF ?_);(refine z33 rfl ?_;intro K hK;(conv=>whnf)))|((intro _;skip)<;>(conv=>whnf))))
        all_goals rfl
    · rw [if_neg (fun e=>h6 e.2.1)]
      (repeat' (first|(with_reducible first|(refine hK _ _ ?_;clear hK K)|(refine hB ?_;clear hA hB A B)|(refine hK _ ?_;clear hK K))|((with_reducible first|refine z25 ?_|refine z26 ?_);intro K hK;(conv=>whnf))|(with_reducible refine z0 ?_)|((first|((with_reducible refine NV.i64 ?s ?_);case s=>omega)|((with_reducible refine NIf.decY ?s ?_);case s=>with_reducible rfl)|((with_reducible refine NIf.decN ?s ?_);case s=>omega)|((with_reducible refine NIf.no ?s ?_);case s=>rfl)|(with_reducible refine NN.cast ?_)|((with_reducible refine NH.mk ?s ?_);case s=>(and_intros<;>first|with_reducible rfl|((with_reducible refine gOnes ?_);rfl)|((with_reducible refine gLen ?_);rfl)|omega))|((with_reducible refine NCall.isF 61 ?_);refine NCall.pureE (ck) ?_))<;>(conv=>whnf))|(with_reducible first|refine z3 ?_|refine z4 ?_|refine z6 ?_|refine z8 ?_)|((with_reducible refine z29 ?_);intro A B hA hB;(conv=>whnf))|(with_reducible first|refine z1 ?_|refine z2 ?_)|((with_reducible refine gR ?_);(refine z31 rfl ?_;intro K hK;(conv=>whnf)))|((with_reducible refine gF ?_);(refine z33 rfl ?_;intro K hK;(conv=>whnf)))|((intro _;skip)<;>(conv=>whnf))))
      all_goals rfl
  · rw [if_neg (fun e=>h5 e.1)]
    generalize Lx.kd (tx.getD i 0)=k at *
    (repeat' (first|(with_reducible first|(refine hK _ _ ?_;clear hK K)|(refine hB ?_;clear hA hB A B)|(refine hK _ ?_;clear hK K))|((with_reducible first|refine z25 ?_|refine z26 ?_);intro K hK;(conv=>whnf))|(with_reducible refine z0 ?_)|((first|((with_reducible refine NIf.no ?s ?_);case s=>(simp ;done))|((with_reducible refine NIf.decN ?s ?_);case s=>assumption)|(with_reducible refine NN.cast ?_)|((with_reducible refine NH.mk ?s ?_);case s=>(and_intros<;>first|with_reducible rfl|((with_reducible refine gOnes ?_);rfl)|((with_reducible refine gLen ?_);rfl)|omega))|((with_reducible refine NCall.isF 61 ?_);refine NCall.pureE (ck) ?_))<;>(conv=>whnf))|(with_reducible first|refine z3 ?_|refine z4 ?_|refine z6 ?_|refine z8 ?_)|((with_reducible refine z29 ?_);intro A B hA hB;(conv=>whnf))|(with_reducible first|refine z1 ?_|refine z2 ?_)|((with_reducible refine gR ?_);(refine z31 rfl ?_;intro K hK;(conv=>whnf)))|((with_reducible refine gF ?_);(refine z33 rfl ?_;intro K hK;(conv=>whnf)))|((intro _;skip)<;>(conv=>whnf))))
    all_goals rfl
end Go.Proofs.YtaojbkphcnailaaDoor
