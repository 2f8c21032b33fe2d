import Derived.Test.YtmehinfgdcmmjaaGreatJ7
import Derived.Test.YtmehinfgdcmmjaaGreatJ5
namespace Go.Proofs.YtmehinfgdcmmjaaGreat
open Go.Sx
set_option maxRecDepth 20000
set_option linter.unusedVariables false
namespace Mt
end Mt
namespace Mt
end Mt
namespace Ac
end Ac
namespace Ac
end Ac
set_option linter.unusedSimpArgs false
set_option maxHeartbeats 2000000
theorem nL (F:Heap) (v:Value) (x:Ru.R) (hv:Ru.RowA F v x) (hx:x.in64) (ports:Int):NCall Tryz.prog 25 [.agg (x.cs v),.int .i64 ports] [hpB F] fun r m=>r = .bool (decide (Ru.ok ports x))∧m=[hpB F]:=by
 have c1:=og x.m hx.2.1
 have c2:=nJ F v x.acts hv hx.2.2.2 ports
 have hq:Ru.ok ports x↔0≤x.prio∧x.prio<65536∧x.m.ok∧Ac.okL ports x.acts:=Iff.rfl
 refine NCall.fits (K:=fun r m=>r = .bool (decide (Ru.ok ports x))∧MemFits m [hpB F]) ?_ fun r m' h=>⟨r,_,rfl,h.2,h.1,rfl⟩
 refine aA Tryz.func25 rfl (by decide) ?_
 simp only [Ru.R.cs,Mt.M.av] at *
 by_cases h1:x.m.ok
 ·rw [decide_eq_true h1] at c1
  by_cases h2:Ac.okL ports x.acts
  ·rw [decide_eq_true h2] at c2
   repeat' first|(intro K hK;(with_reducible refine gC ?_);first|refine cP c1 ?_|refine cS [0] c2 ?_)|(refine sxO ?_;try clear hK K)|refine sxW ?_ ?_<;>intro _|refine sxV ?_ ?_|(intro K hK _;conv=>whnf)
   all_goals first
    | exact ⟨boolT (hq.2 ⟨by omega,by omega,h1,h2⟩),MemFits.drop [_] [_]⟩
    | exact ⟨cZ (fun h=>by have:=hq.1 h;omega),MemFits.drop [_] [_]⟩
    | skip
  ·rw [decide_eq_false h2] at c2
   repeat' first|(intro K hK;(with_reducible refine gC ?_);first|refine cP c1 ?_|refine cS [0] c2 ?_)|(refine sxO ?_;try clear hK K)|refine sxW ?_ ?_<;>intro _|refine sxV ?_ ?_|(intro K hK _;conv=>whnf)
   all_goals exact ⟨cZ (fun h=>h2 (hq.1 h).2.2.2),MemFits.drop [_] [_]⟩
 ·rw [decide_eq_false h1] at c1
  repeat' first|(intro K hK;(with_reducible refine gC ?_);refine cP c1 ?_)|(refine sxO ?_;try clear hK K)|refine sxW ?_ ?_<;>intro _|refine sxV ?_ ?_|(intro K hK _;conv=>whnf)
  all_goals exact ⟨cZ (fun h=>h1 (hq.1 h).2.2.1),MemFits.drop [_] [_]⟩
theorem qY (x y:Ru.R) (v w:Value):NCall Tryz.prog 61 [.agg (x.cs v),.agg (y.cs w)] [] fun r _=>r = .bool (decide (x.prio=y.prio∧x.m=y.m)):=by
 have hc:=oz x.m y.m
 refine aA Tryz.func61 rfl (by decide) ?_
 simp only [Ru.R.cs]
 (repeat' (first|(refine sxA ?_;(first|clear hK K|skip);(first|clear hA hB A B|skip))|((with_reducible refine gNO ?_);(first|(refine z36 rfl (by kernel_rfl) ?_;intro K hK;conv=>whnf)|(refine z37 rfl (by kernel_rfl) ?_;intro K hK;conv=>whnf)|refine z38 rfl (by kernel_rfl) ?_|refine z39 rfl rfl (by kernel_rfl) (by intro h;cases h) ?_))|((with_reducible refine gNE ?_);(first|(refine z40 ?_ ?_;(intro K hK;conv=>whnf))|(refine z41 ?_ ?_;(intro K hK;conv=>whnf))|exact z42))|((with_reducible refine gNO ?_);(first|(refine z36 rfl (by kernel_rfl) ?_;intro K hK;conv=>whnf)|(refine z37 rfl (by kernel_rfl) ?_;intro K hK;conv=>whnf)|refine z38 rfl (by kernel_rfl) ?_|refine z39 rfl rfl (by kernel_rfl) (by intro h;cases h) ?_))|((with_reducible refine gNE ?_);(first|(refine z40 ?_ ?_;(intro K hK;conv=>whnf))|(refine z41 ?_ ?_;(intro K hK;conv=>whnf))|exact z42))|((with_reducible refine gX ?_);(first|refine z34 (by kernel_rfl) (by decide +kernel) ?_|refine z35 (by kernel_rfl) _ rfl ?_|refine z35 (by kernel_rfl) _ rfl ?_))|(refine bQ ?_;intro K hK;conv=>whnf)|(refine bF ?_;intro A B hA hB;(conv=>whnf);((with_reducible refine NIf.dec (fun _=>?_) (fun _=>?_))<;>(conv=>whnf)))|(refine bF ?_;intro A B hA hB;conv=>whnf)|((with_reducible first|refine NIf.dec (fun _=>?_) (fun _=>?_)|refine NIf.both (fun _=>?_) (fun _=>?_))<;>(conv=>whnf))|((intro _;skip)<;>(conv=>whnf))))
 all_goals first
  | exact cZ (fun h=>by have:=h.1;omega)
  | (rw [hc];exact dl (by simp only [decide_eq_true_eq];exact ⟨fun h=>⟨by omega,h⟩,fun h=>h.2⟩))
  | skip
theorem oD (x y:Ru.R) (v w:Value):NCall Tryz.prog 26 [.agg (x.cs v),.agg (y.cs w)] [] fun r _=>r = .bool (decide (x.prio>y.prio)):=by
 refine aA Tryz.func26 rfl (by decide) ?_
 simp only [Ru.R.cs]
 repeat' first|(refine sxZ ?_;try clear hK K)|refine sxW ?_ ?_<;>intro _|(intro K hK _;conv=>whnf)
 all_goals rfl
end Go.Proofs.YtmehinfgdcmmjaaGreat
