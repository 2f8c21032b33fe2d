import Derived.Test.YtmehinfgdcmmjaaGreatJ37
import Derived.Test.YtmehinfgdcmmjaaGreatJ34
import Derived.Test.YtmehinfgdcmmjaaGreatJ19
import Derived.Test.YtmehinfgdcmmjaaGreatJ29
import Derived.Test.YtmehinfgdcmmjaaGreatJ30
import Derived.Test.YtmehinfgdcmmjaaGreatJ31
import Derived.Test.YtmehinfgdcmmjaaGreatSxC
namespace Go.Proofs.YtmehinfgdcmmjaaGreat
open Go.Sx
set_option maxRecDepth 20000
set_option maxHeartbeats 4000000
set_option linter.unusedVariables false
namespace Tr
end Tr
set_option maxHeartbeats 8000000
theorem Tr.ans_facts (sw:Int) (x:Po.T) (hf:Tr.few x=true):(Tr.ans sw x).1.length≤1000∧(∀ c∈(Tr.ans sw x).1,c.out.length≤1000)∧(Po.right x=true→Po.cells (Po.spec sw x)≤4096)∧(Po.right x=true→Tr.cnt (Po.spec sw x) Tr.order≤1000000):=by
 have h3:=(Tr.few_iff hf).1
 by_cases hr:Po.right x=true
 ·have hxf:=Po.right_fits' hr
  have h1:=Nat.le_trans (Tr.few_cells sw x hxf 5) h3
  have h2:=Nat.le_trans (Tr.few_cnt sw x hxf) h3
  have hl:=Tr.cases_len sw (Po.spec sw x) Tr.order Tr.start
  unfold Tr.ans
  rw [if_pos hr]
  refine ⟨by show (Tr.all sw x).length≤1000;unfold Tr.all;omega,fun c hc=>Nat.le_trans (Tr.cases_out_len sw _ 64 (fun s=>Po.runs_64 sw _ (Po.spec_right sw x hr) s) Tr.order Tr.start c hc) (by decide),fun _=>Nat.le_trans h1 (by decide),fun _=>Nat.le_trans h2 (by decide)⟩
 ·unfold Tr.ans
  rw [if_neg hr]
  exact ⟨Nat.zero_le _,fun c hc=>(by cases hc),fun h=>absurd h hr,fun h=>absurd h hr⟩
set_option maxHeartbeats 4000000
namespace Cm
def exTop:Tp.T:=⟨1,[],[⟨0,2⟩]⟩
theorem ex_right:Tp.right exTop=true:=by decide +kernel
theorem fit_of {x:Po.T} (hs:Po.tot x≤1000000000) (h:Tr.few x=true):Fit x :=
 ⟨hs,fun sw=>(Tr.ans_facts sw x h).2.2.1,fun sw=>(Tr.ans_facts sw x h).2.2.2,fun sw=>(Tr.ans_facts sw x h).1,fun sw=>(Tr.ans_facts sw x h).2.1⟩
end Cm
theorem NCall.grow {α:Type} {P:Program} {f:FuncId} {args:List AV} {m:List Blk} {F:Heap} {t:TypeId} {sz:Nat} (enc:α→List Value) (cs:List α→List AV) (K:List α→Prop)
  (h:NCall P f args m fun r m'=>∃ u l,K l∧r.den=aw u∧MemFits m' [hpB F,⟨addrOf u,cs l,.row u t sz l.length⟩]) (hcs:∀ l,denL (cs l)=l.flatMap enc) (hsz:∀ x,(enc x).length=sz) :
  NCall P f args m fun r m'=>∃ F' u l,K l∧F.le F'∧r = .hs u l.length∧m'=[hpB F']∧aH F' sz (fun x us=>us=enc x) u l:=by
 refine Go.Sx.NCall.know h fun r m' ⟨u,l,hK,hr,hm⟩ ⟨w,hw⟩=>?_
 have hok:=((hm w hw).1.row (List.mem_cons_of_mem _ (List.mem_singleton.2 rfl))).1
 exact ⟨.hs u l.length,_,hr.symm,hm.trans (MemFits.freeze (m:=[])),_,u,l,hK,addF.old,rfl,rfl,aJ hok (hcs l) fun x _=>hsz x⟩
end Go.Proofs.YtmehinfgdcmmjaaGreat
