import Derived.Test.YtmehinfgdcmmjaaGreatDoorJ11
import Derived.Test.YtmehinfgdcmmjaaGreatDoorJ23
import Derived.Test.YtmehinfgdcmmjaaGreatDoorJ17
import Derived.Test.YtmehinfgdcmmjaaGreatDoorJ19
import Derived.Test.YtmehinfgdcmmjaaGreatDoorJ22
import Derived.Test.YtmehinfgdcmmjaaGreatDoorJ18
namespace Go.Proofs.YtmehinfgdcmmjaaGreatDoor
open Go.Sx
set_option maxRecDepth 20000
set_option linter.unusedSimpArgs false
set_option linter.unusedVariables false
set_option maxHeartbeats 4000000
set_option linter.unusedVariables false
namespace Pd
end Pd
end Go.Proofs.YtmehinfgdcmmjaaGreatDoor
namespace Go.Proofs.YtmehinfgdcmmjaaGreatDoor
open Go.Sx
set_option maxRecDepth 20000
set_option linter.unusedSimpArgs false
set_option linter.unusedVariables false
set_option maxHeartbeats 4000000
set_option linter.unusedVariables false
theorem Fit1.nilhs {n':Nat} {v':Value} (h:v' = .slice none 0 0):Fit1 (.raw (.slice none 0 0)) (.hs v' n'):=.inr ⟨by simp,by rw [h];rfl⟩
end Go.Proofs.YtmehinfgdcmmjaaGreatDoor
namespace Go.Proofs.YtmehinfgdcmmjaaGreatDoor
open Go.Sx
set_option maxRecDepth 20000
set_option linter.unusedSimpArgs false
set_option linter.unusedVariables false
set_option maxHeartbeats 4000000
set_option linter.unusedVariables false
theorem refvalues27_c (F:Heap) (x:Po.T) (pu u:Value) (f:Int) (hf : -9223372036854775808≤f∧f≤9223372036854775807) (hs:Po.tot x≤4611686018427387904) (hx:Po.At F x pu u) :
  NCall Tryz.prog 22 [.agg (Po.cs x pu u),.int .i64 f] [hpB F] fun r m=>Srt.Lays F (Po.asked f x ((Pd.top f).toNat+1)) r m:=by
 refine Srt.know (t:=3) ?_
 have hok:=hx.l.ok
 have hpok:=hx.p.ok
 have ctop:=reftop26_c f
 have ht0:=Pd.top_nonneg f
 have ht1:Pd.top f≤255:=by unfold Pd.top;split<;>first | omega | (split<;>first | omega | (split<;>omega))
 have ca:∀ i:Nat,NCall Tryz.prog 48 [.agg (Po.cs x pu u),.int .i64 f,.int .i64 i] [hpB F] fun r m=>r = .bool (decide ((i:Int)∈Po.vals f x))∧m=[hpB F]:=fun i=>has27_c F f i hf _ x pu u (Nat.le_refl _) hs hx
 have hnx:=Po.asked_next f x
 have hln:=Po.asked_len f x
 have h0:Po.asked f x 0=[]:=rfl
 generalize Pd.top f=T at *
 generalize hE:Po.vals f x=E at *
 generalize hW:Po.asked f x=W at *
 clear hs hx hE hW
 obtain ⟨k,⟨pk,pf,pv,pl⟩,a,v,l⟩:=x
 simp only [po_cs,Po.T.l,Po.T.p,Pd.T.k,Pd.T.f,Pd.T.v,Pd.T.l] at *
 refine ncall_of Tryz.func22 rfl (by decide) ?_
 repeat' first|(refine sxZ ?_;try clear hK K)|refine sxW ?_ ?_<;>intro _|(intro K hK _;(conv=>whnf))
 refine st_auto (α:=Value × Nat) (fun (w,i)=>i≤T.toNat+1) (fun (w,i)=>[.keep,.keep,.keep,.keep,.keep,.set (.sl 2 w (W i).length),.set (.int .i64 i),.drop,.drop,.drop,.drop,.drop,.drop,.drop,.drop,.drop,.drop,.drop,.drop,.drop,.drop,.keep]) (fun (w,i)=>[.keep,.keep,.set ⟨addrOf w,Srt.av (W i),.row w 3 1 (W i).length⟩]) (fun (w,i)=>T.toNat+1 - i) (.slice none 0 0,0) (Nat.zero_le _) ?_ ((MemFits.nilRow _ 3 1).trans (MemFits.congr (by simp only [autoM,h0];rfl))) ?_
 ·dsimp only
  rw [h0]
  exact fitsGo
 (intro ⟨w,i⟩ hi;intro K hK;(conv=>whnf);refine hK _ _ ?_;clear hK K)
 dsimp only
 have hi:i≤T.toNat+1:=hi
 have hl:=hln i
 by_cases hlt:(i:Int)≤T
 ·have c:=ca i
  have hn:=hnx i
  by_cases hE:(i:Int)∈E
  ·rw [decide_eq_true hE] at c
   rw [if_pos hE] at hn
   have hav:=Srt.av_append (W i) [(i:Int)]
   have hal:=Srt.av_len (W i)
   rw [← hn] at hav
   have hlen:(W (i+1)).length=(W i).length+1:=by rw [hn,List.length_append];rfl
   generalize Srt.av (W i)=B at *
   clear ca hnx hln
   repeat' first|(intro K hK;(with_reducible refine gC ?_);first|refine cP ctop ?_|refine cS [0] c ?_)|(refine sxZ ?_;try clear hK K)|refine sxW ?_ ?_<;>intro _|(intro K hK _;(conv=>whnf))
   all_goals first | (exfalso;omega) | skip
   all_goals
    rename_i v9
    refine st_round (v9,i+1) (by show i+1≤T.toNat+1;omega) (by show T.toNat+1 - (i+1)<T.toNat+1 - i;omega) ?_ (MemFits.pre 3 ?_)
    ·dsimp only
     rw [hlen]
     exact fitsGo
    ·simp only [autoM,List.take,hlen,hav]
     rfl
  ·rw [decide_eq_false hE] at c
   rw [if_neg hE,List.append_nil] at hn
   rw [← hn]
   clear ca hnx hln
   repeat' first|(intro K hK;(with_reducible refine gC ?_);first|refine cP ctop ?_|refine cS [0] c ?_)|(refine sxZ ?_;try clear hK K)|refine sxW ?_ ?_<;>intro _|(intro K hK _;(conv=>whnf))
   all_goals first | (exfalso;omega) | skip
   all_goals
    refine st_round (w,i+1) (by show i+1≤T.toNat+1;omega) (by show T.toNat+1 - (i+1)<T.toNat+1 - i;omega) ?_ (MemFits.pre 3 rfl)
    dsimp only
    exact fitsGo
 ·have hE:i=T.toNat+1:=by omega
  subst hE
  clear ca hnx
  repeat' first|(intro K hK;(with_reducible refine gC ?_);refine cP ctop ?_)|(refine sxZ ?_;try clear hK K)|refine sxW ?_ ?_<;>intro _|(intro K hK _;(conv=>whnf))
  all_goals first | (exfalso;omega) | skip
  all_goals exact ⟨w,rfl,MemFits.pick [0,2] (by decide) rfl⟩
end Go.Proofs.YtmehinfgdcmmjaaGreatDoor
namespace Go.Proofs.YtmehinfgdcmmjaaGreatDoor
open Go.Sx
set_option maxRecDepth 20000
set_option linter.unusedSimpArgs false
set_option linter.unusedVariables false
set_option maxHeartbeats 16000000
set_option linter.unusedVariables false
end Go.Proofs.YtmehinfgdcmmjaaGreatDoor
