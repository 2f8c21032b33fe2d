import Derived.Test.YtaolcaggdddkpaaGreatJ29
import Derived.Test.YtaolcaggdddkpaaGreatJ26
namespace Go.Proofs.YtaolcaggdddkpaaGreat
open Go.Sx
set_option maxRecDepth 20000
set_option maxHeartbeats 4000000
set_option linter.unusedVariables false
namespace Tp
end Tp
set_option linter.unusedSimpArgs false
namespace Po
end Po
theorem many30_c (F:Heap) (x:Po.T) (pu u:Value) (f:Int) (hf : -9223372036854775808≤f∧f≤9223372036854775807) (hs:Po.tot x≤4611686018427387904) (hx:Po.At F x pu u) :
  NCall Tryz.prog 62 [.agg (Po.cs x pu u),.int .i64 f] [hpB F] fun r m=>r = .int .i64 (Po.asked f x ((Pd.top f).toNat+1)).length∧m=[hpB F]:=by
 refine NCall.fits (K:=fun r m=>r = .int .i64 (Po.asked f x ((Pd.top f).toNat+1)).length∧MemFits m [hpB F]) ?_ fun r m' h=>⟨r,_,rfl,h.2,h.1,rfl⟩
 have hok:=hx.l.ok
 have hpok:=hx.p.ok
 have ctop:=reftop26_c f
 have ht0:=Pd.top_nonneg f
 have ht1:Pd.top f≤255:=by unfold Pd.top;split<;>first | omega | (split<;>first | omega | (split<;>omega))
 have ca:∀ i:Nat,NCall Tryz.prog 48 [.agg (Po.cs x pu u),.int .i64 f,.int .i64 i] [hpB F] fun r m=>r = .bool (decide ((i:Int)∈Po.vals f x))∧m=[hpB F]:=fun i=>has27_c F f i hf _ x pu u (Nat.le_refl _) hs hx
 have hnx:=Po.asked_next f x
 have hln:=Po.asked_len f x
 have h0:Po.asked f x 0=[]:=rfl
 generalize Pd.top f=T at *
 generalize hE:Po.vals f x=E at *
 generalize hW:Po.asked f x=W at *
 clear hs hx hE hW
 obtain ⟨k,⟨pk,pf,pv,pl⟩,f0,v0,l⟩:=x
 simp only [Po.cs,Po.T.k,Po.T.p,Po.T.f,Po.T.v,Po.T.l,Pd.T.k,Pd.T.f,Pd.T.v,Pd.T.l] at *
 refine ncall_of Tryz.func62 rfl (by decide) ?_
 (repeat' (first|(with_reducible first|(refine hK _ _ ?_;clear hK K)|(refine hK _ ?_;clear hK K))|((with_reducible refine z25 ?_);intro K hK;(conv=>whnf))|(with_reducible first|refine z0 ?_|refine z3 ?_|refine z4 ?_|refine z5 ?_|refine z1 ?_|refine z2 ?_)|((with_reducible refine gF ?_);(refine z33 rfl ?_;intro K hK;(conv=>whnf)))|((intro _;skip)<;>(conv=>whnf))))
 refine st_auto (α:=Nat) (fun i=>i≤T.toNat+1) (fun i=>[.keep,.keep,.keep,.keep,.keep,.set (.int .i64 (W i).length),.set (.int .i64 i),.drop,.drop,.drop,.drop,.drop,.drop,.drop,.drop,.drop,.drop,.drop,.drop,.keep]) (fun _=>[]) (fun i=>T.toNat+1 - i) 0 (Nat.zero_le _) ?_ (MemFits.eq rfl) ?_
 ·rw [h0]
  repeat (first|exact FitsSl.nil|refine FitsSl.any ?_|refine FitsSl.cons (Fit1.int (by first | rfl | omega)) ?_|refine FitsSl.cons (Fit1.same (by intro h;cases h) (by with_reducible rfl)) ?_)
 (intro i hi;intro K hK;(conv=>whnf);refine hK _ _ ?_;clear hK K)
 have hl:=hln i
 by_cases hlt:(i:Int)≤T
 ·have c:=ca i
  have hn:=hnx i
  by_cases hE:(i:Int)∈E
  ·rw [decide_eq_true hE] at c
   rw [if_pos hE] at hn
   have hlen:(W (i+1)).length=(W i).length+1:=by rw [hn,List.length_append];rfl
   clear ca hnx hln
   (repeat' (first|(with_reducible first|(refine hK _ _ ?_;clear hK K)|(refine hA ?_;clear hA hB A B))|((with_reducible refine z25 ?_);intro K hK;(conv=>whnf))|(with_reducible refine z0 ?_)|((first|((with_reducible refine NV.i64 ?s ?_);case s=>omega)|((with_reducible refine NIf.decY ?s ?_);case s=>assumption)|((with_reducible refine NIf.yes ?s ?_);case s=>rfl)|((with_reducible refine NH.mk ?s ?_);case s=>(and_intros<;>with_reducible rfl))|((with_reducible refine NCall.isF 47 ?_);refine NCall.pureE (ctop) ?_)|((with_reducible refine NCall.isF 48 ?_);refine NCall.subE [0] (c) rfl (by decide) rfl rfl ?_))<;>(conv=>whnf))|(with_reducible first|refine z3 ?_|refine z4 ?_|refine z5 ?_|refine z6 ?_)|((with_reducible refine z29 ?_);intro A B hA hB;(conv=>whnf))|(with_reducible first|refine z1 ?_|refine z2 ?_|refine z9 ?_)))
   all_goals first | (exfalso;omega) | skip
   all_goals
    refine st_round (i+1) (by show i+1≤T.toNat+1;omega) (by show T.toNat+1 - (i+1)<T.toNat+1 - i;omega) ?_ (MemFits.pre 2 rfl)
    rw [hlen]
    repeat (first|exact FitsSl.nil|refine FitsSl.any ?_|refine FitsSl.cons (Fit1.int (by first | rfl | omega)) ?_|refine FitsSl.cons (Fit1.same (by intro h;cases h) (by with_reducible rfl)) ?_)
  ·rw [decide_eq_false hE] at c
   rw [if_neg hE,List.append_nil] at hn
   rw [← hn]
   clear ca hnx hln
   (repeat' (first|(with_reducible first|(refine hK _ _ ?_;clear hK K)|(refine hA ?_;clear hA hB A B)|(refine hB ?_;clear hA hB A B))|((with_reducible refine z25 ?_);intro K hK;(conv=>whnf))|(with_reducible refine z0 ?_)|((first|((with_reducible refine NV.i64 ?s ?_);case s=>omega)|((with_reducible refine NIf.decY ?s ?_);case s=>assumption)|((with_reducible refine NIf.no ?s ?_);case s=>rfl)|((with_reducible refine NH.mk ?s ?_);case s=>(and_intros<;>with_reducible rfl))|((with_reducible refine NCall.isF 47 ?_);refine NCall.pureE (ctop) ?_)|((with_reducible refine NCall.isF 48 ?_);refine NCall.subE [0] (c) rfl (by decide) rfl rfl ?_))<;>(conv=>whnf))|(with_reducible first|refine z3 ?_|refine z4 ?_|refine z5 ?_|refine z6 ?_)|((with_reducible refine z29 ?_);intro A B hA hB;(conv=>whnf))|(with_reducible first|refine z1 ?_|refine z2 ?_|refine z9 ?_)))
   all_goals first | (exfalso;omega) | skip
   all_goals
    refine st_round (i+1) (by show i+1≤T.toNat+1;omega) (by show T.toNat+1 - (i+1)<T.toNat+1 - i;omega) ?_ (MemFits.pre 2 rfl)
    repeat (first|exact FitsSl.nil|refine FitsSl.any ?_|refine FitsSl.cons (Fit1.int (by first | rfl | omega)) ?_|refine FitsSl.cons (Fit1.same (by intro h;cases h) (by with_reducible rfl)) ?_)
 ·have hE:i=T.toNat+1:=by omega
  subst hE
  clear ca hnx
  (repeat' (first|(with_reducible first|(refine hK _ _ ?_;clear hK K)|(refine hB ?_;clear hA hB A B)|(refine hK _ ?_;clear hK K))|((with_reducible refine z25 ?_);intro K hK;(conv=>whnf))|(with_reducible refine z0 ?_)|((first|((with_reducible refine NIf.decN ?s ?_);case s=>assumption)|((with_reducible refine NCall.isF 47 ?_);refine NCall.pureE (ctop) ?_))<;>(conv=>whnf))|(with_reducible first|refine z3 ?_|refine z4 ?_|refine z7 ?_|refine z8 ?_)|((with_reducible refine z29 ?_);intro A B hA hB;(conv=>whnf))|(with_reducible first|refine z1 ?_|refine z2 ?_|refine z10 ?_|refine z11 ?_|refine z19 ?_)|((with_reducible refine gR ?_);(refine z31 rfl ?_;intro K hK;(conv=>whnf)))))
  all_goals first | (exfalso;omega) | skip
  all_goals exact ⟨rfl,MemFits.pre 1 rfl⟩
theorem refcells30_c (F:Heap) (x:Po.T) (pu u:Value) (hs:Po.tot x≤2932031007402) (hf:Po.fits x=true) (hx:Po.At F x pu u):NCall Tryz.prog 31 [.agg (Po.cs x pu u)] [hpB F] fun r m=>r = .int .i64 (Po.cells x:Nat)∧m=[hpB F]:=by
 refine NCall.fits (K:=fun r m=>r = .int .i64 (Po.cells x:Nat)∧MemFits m [hpB F]) ?_ fun r m' h=>⟨r,_,rfl,h.2,h.1,rfl⟩
 have hok:=hx.l.ok
 have hpok:=hx.p.ok
 have cv:∀ i:Nat,i<5→NCall Tryz.prog 62 [.agg (Po.cs x pu u),.int .i64 i] [hpB F] fun r m=>r = .int .i64 (Po.values i x).length∧m=[hpB F]:=fun i hi=>by
  have c:=many30_c F x pu u i (by omega) (by omega) hx
  rw [Po.asked_values i x hf] at c
  exact c
 have hcl:=Po.cellsN_le x
 have hlv:∀ f,(Po.values f x).length≤2932031007402:=fun f=>Nat.le_trans (Po.values_len f x) hs
 unfold Po.cells
 have hnx:∀ i,Po.cellsN x (i+1)=min (Po.cellsN x i*((Po.values i x).length+1)) 100000:=fun i=>by rw [Po.cellsN]
 have hbig:∀ i,Po.cellsN x i*((Po.values i x).length+1)≤293203100740300000:=fun i=>by
  have h1:=hcl i
  have h2:=hlv i
  calc _≤100000*(2932031007402+1):=Nat.mul_le_mul h1 (by omega)
   _≤_:=by decide
 have h0:Po.cellsN x 0=1:=rfl
 clear hx hs hf
 generalize hC:Po.cellsN x=C at *
 generalize hL:(fun f:Int=>(Po.values f x).length)=L at *
 have hL':∀ f:Int,(Po.values f x).length=L f:=fun f=>by rw [← hL]
 simp only [hL'] at cv hnx hbig hlv
 clear hL hL' hC
 obtain ⟨k,⟨pk,pf,pv,pl⟩,f0,v0,l⟩:=x
 simp only [Po.cs,Po.T.k,Po.T.p,Po.T.f,Po.T.v,Po.T.l,Pd.T.k,Pd.T.f,Pd.T.v,Pd.T.l] at *
 refine ncall_of Tryz.func31 rfl (by decide) ?_
 (repeat' (first|(with_reducible first|(refine hK _ _ ?_;clear hK K)|(refine hK _ ?_;clear hK K))|((with_reducible refine z25 ?_);intro K hK;(conv=>whnf))|(with_reducible first|refine z0 ?_|refine z3 ?_|refine z4 ?_|refine z5 ?_|refine z1 ?_|refine z2 ?_)|((with_reducible refine gF ?_);(refine z33 rfl ?_;intro K hK;(conv=>whnf)))|((intro _;skip)<;>(conv=>whnf))))
 refine st_auto (α:=Nat) (fun i=>i≤5) (fun i=>[.keep,.keep,.keep,.set (.int .i64 (C i:Nat)),.set (.int .i64 i),.drop,.drop,.drop,.drop,.drop,.drop,.drop,.drop,.drop,.drop,.drop,.drop,.keep]) (fun _=>[]) (fun i=>5 - i) 0 (by decide) ?_ (MemFits.eq rfl) ?_
 ·repeat (first|exact FitsSl.nil|refine FitsSl.any ?_|refine FitsSl.cons (Fit1.int (by  simp [h0])) ?_|refine FitsSl.cons (Fit1.same (by intro h;cases h) (by with_reducible rfl)) ?_)
 (intro i hi;intro K hK;(conv=>whnf);refine hK _ _ ?_;clear hK K)
 by_cases hlt:i<5
 ·have c:=cv i hlt
  have hn:=hnx i
  have hb:=hbig i
  have hl:=hlv i
  have hc:=hcl i
  clear cv hnx hbig hlv hcl
  generalize L i=n at *
  generalize C i=c0 at *
  have hprod:((c0:Int)*((n:Int)+1))=((c0*(n+1):Nat):Int):=by push_cast;rfl
  (repeat' (first|(with_reducible first|(refine hK _ _ ?_;clear hK K)|(refine hA ?_;clear hA hB A B)|(refine hB ?_;clear hA hB A B))|((with_reducible refine z25 ?_);intro K hK;(conv=>whnf))|(with_reducible refine z0 ?_)|((first|((with_reducible refine NV.i64 ?s ?_);case s=>omega)|((with_reducible refine NIf.decY ?s ?_);case s=>omega)|(with_reducible refine NIf.dec (fun _=>?_) (fun _=>?_))|((with_reducible refine NH.mk ?s ?_);case s=>(and_intros<;>with_reducible rfl))|((with_reducible refine NCall.isF 62 ?_);refine NCall.subE [0] (c) rfl (by decide) rfl rfl ?_))<;>(conv=>whnf))|(with_reducible first|refine z3 ?_|refine z4 ?_|refine z5 ?_|refine z6 ?_)|((with_reducible refine z29 ?_);intro A B hA hB;(conv=>whnf))|(with_reducible first|refine z1 ?_|refine z2 ?_|refine z9 ?_)))
  all_goals
   refine st_round (i+1) hlt (by omega) ?_ (MemFits.pre 2 rfl)
   repeat (first|exact FitsSl.nil|refine FitsSl.any ?_|refine FitsSl.cons (Fit1.int (by  (simp only [hn];omega))) ?_|refine FitsSl.cons (Fit1.int (by first | rfl | omega)) ?_|refine FitsSl.cons (Fit1.same (by intro h;cases h) (by with_reducible rfl)) ?_)
 ·obtain rfl:i=5:=by omega
  (repeat' (first|(with_reducible first|(refine hK _ _ ?_;clear hK K)|(refine hB ?_;clear hA hB A B)|(refine hK _ ?_;clear hK K))|((with_reducible refine z25 ?_);intro K hK;(conv=>whnf))|(with_reducible refine z0 ?_)|(((with_reducible refine NIf.decN ?s ?_);case s=>omega)<;>(conv=>whnf))|(with_reducible first|refine z3 ?_|refine z4 ?_|refine z7 ?_|refine z8 ?_)|((with_reducible refine z29 ?_);intro A B hA hB;(conv=>whnf))|(with_reducible first|refine z1 ?_|refine z2 ?_|refine z10 ?_|refine z11 ?_|refine z19 ?_)|((with_reducible refine gR ?_);(refine z31 rfl ?_;intro K hK;(conv=>whnf)))))
  all_goals exact ⟨rfl,MemFits.pre 1 rfl⟩
end Go.Proofs.YtaolcaggdddkpaaGreat
