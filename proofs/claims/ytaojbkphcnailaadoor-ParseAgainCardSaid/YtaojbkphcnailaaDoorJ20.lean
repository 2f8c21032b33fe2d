import Derived.Test.YtaojbkphcnailaaDoorJ8
import Derived.Test.YtaojbkphcnailaaDoorJ11
namespace Go.Proofs.YtaojbkphcnailaaDoor
open Go.Sx
set_option maxRecDepth 20000
set_option linter.unusedVariables false
namespace Pd
end Pd
end Go.Proofs.YtaojbkphcnailaaDoor
namespace Go.Proofs.YtaojbkphcnailaaDoor
open Go.Sx
set_option maxRecDepth 20000
set_option linter.unusedVariables false
namespace Po
theorem fits_iff {k:Int} {p:Pd.T} {f v:Int} {l:List T}:fits (.mk k p f v l)=true↔(k=1∧Pd.right p=true∧(f=0∧v=0)∧l.length=0∨k=2∧p=noneP∧(0≤f∧f≤4)∧(0≤v∧v≤Pd.top f)∧l.length=0∨(k=3∨k=4)∧p=noneP∧(f=0∧v=0)∧2≤l.length∧l.length≤8∨k=5∧Pd.right p=true∧(f=0∧v=0)∧l.length=2)∧∀ x∈l,fits x=true:=by
  have hl:fitsL l=true↔∀ x∈l,fits x=true:=by
    induction l with
    | nil=>simp [fitsL]
    | cons x l ih=>simp only [fitsL,Bool.and_eq_true,ih,List.mem_cons,forall_eq_or_imp]
  have hn:none p=true↔p=noneP:=Pd.same_eq _ _
  rw [fits,Bool.and_eq_true,hl]
  unfold shape
  rw [decide_eq_true_eq,hn]
theorem right_fits' {x:T} (h:right x=true):fits x=true:=by
  unfold right at h
  simp only [Bool.and_eq_true] at h
  exact h.1
end Po
end Go.Proofs.YtaojbkphcnailaaDoor
