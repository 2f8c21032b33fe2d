/- A part of the proof. -/
import Derived.Test.YtmehinfgdcmmjaaGreatDoorTCm6
import Derived.Test.YtmehinfgdcmmjaaGreatDoorTCm7
import Derived.Test.YtmehinfgdcmmjaaGreatDoorTJ33
import Derived.Test.YtmehinfgdcmmjaaGreatDoorTPo8
namespace Go.Proofs.YtmehinfgdcmmjaaGreatDoor
open Go.Sx
set_option maxRecDepth 20000
set_option linter.unusedSimpArgs false
set_option linter.unusedVariables false
set_option maxHeartbeats 8000000
namespace Cm
theorem rule_ok {n k:Nat} {c:Tr.C} (hn:n≤1000) (hs:okS c.s) (ho:∀ u∈c.out,okS u):Ru.ok 8 (rule n k c):=by
 refine ⟨?_,?_,mt_ok hs,acts_ok hs ho⟩
 ·show (0:Int)≤((n - k:Nat):Int);omega
 ·show ((n - k:Nat):Int)<65536;omega
theorem tbl_facts {C:List Tr.C} {e room:Int} (hn:C.length≤1000) (hok:∀ c∈C,okS c.s∧∀ u∈c.out,okS u) :
  (tbl C e room).1.length≤1000∧(∀ x∈(tbl C e room).1,Ru.ok 8 x)∧(∀ i j (hi:i<(tbl C e room).1.length) (hj:j<(tbl C e room).1.length),i<j→(tbl C e room).1[j].prio<(tbl C e room).1[i].prio)∧((tbl C e room).2=0→((tbl C e room).1.length:Int)≤room):=by
 have hnil:∀ v:Int,¬ v=0→([]:List Ru.R).length≤1000∧(∀ x∈([]:List Ru.R),Ru.ok 8 x)∧(∀ i j (hi:i<([]:List Ru.R).length) (hj:j<([]:List Ru.R).length),i<j→([]:List Ru.R)[j].prio<([]:List Ru.R)[i].prio)∧(v=0→(([]:List Ru.R).length:Int)≤room):=fun v hv =>
  ⟨by simp,fun x hx=>(by cases hx),fun i j hi hj=>absurd hi (Nat.not_lt_zero _),fun h=>absurd h hv⟩
 unfold tbl
 split
 ·rename_i h;exact hnil e h
 ·split
  ·rename_i h;exact hnil _ h
  ·split
   ·exact hnil 6 (by decide)
   ·rename_i h
    have hlen:=rules_len C.length C 0
    refine ⟨by dsimp only;omega,fun x hx=>?_,fun i j hi hj hij=>?_,fun _=>by dsimp only;omega⟩
    ·obtain ⟨k,hk⟩:=List.getElem?_of_mem hx
     have hlt:k<C.length:=by
      have:=(List.getElem?_eq_some_iff.1 hk).1
      dsimp only at this
      omega
     dsimp only at hk
     rw [rules_at C.length C 0 k hlt] at hk
     injection hk with hk
     have:=hok _ (List.getElem_mem hlt)
     rw [← hk]
     exact rule_ok hn this.1 this.2
    ·dsimp only at hi hj ⊢
     have h1:=rules_at C.length C 0 i (by omega)
     have h2:=rules_at C.length C 0 j (by omega)
     rw [List.getElem?_eq_getElem hi] at h1
     rw [List.getElem?_eq_getElem hj] at h2
     injection h1 with h1
     injection h2 with h2
     rw [h1,h2]
     show ((C.length - (0+j):Nat):Int)<((C.length - (0+i):Nat):Int)
     omega
theorem ans_ok (sw:Int) (x:Po.T):∀ c∈(Tr.ans sw x).1,okS c.s∧∀ u∈c.out,okS u:=by
 unfold Tr.ans
 split
 ·rename_i hr
  exact all_ok (Po.right_fits' hr)
 ·intro c hc;cases hc
end Cm
theorem jo (F:Heap) (hT:TabF F) (x:Po.T) (pu u:Value) (sw room:Int) (hs:Po.tot x≤1000000000) (hx:Po.At F x pu u) :
  Qz Tryz.prog 4 [.agg (Po.cs x pu u),.int .i64 sw,.int .i64 room] [hpB F] fun r _=>r = .bool true:=by
 have hok:=hx.l.ok
 have hpok:=hx.p.ok
 have cw:=fun G (h:F.le G)=>nj G (hT.mono h)
 have cF:=qO F x pu u hs hx
 by_cases hfw:Tr.few x=true
 rotate_left
 ·have hfw:Tr.few x=false:=by simpa using hfw
  rw [hfw] at cF
  have cw:=cw F F.le_refl
  clear hx hfw
  obtain ⟨k,⟨pk,pf,pv,pl⟩,a,v,l⟩:=x
  simp only [aY,Po.T.l,Po.T.p,Pd.T.k,Pd.T.f,Pd.T.v,Pd.T.l] at *
  refine aB Tryz.func4 rfl (by decide) ?_
  repeat' first|(intro K hK;(with_reducible refine gC ?_);first|refine Go.Sx.cS [0] cF ?_|refine Go.Sx.cS [0] cw ?_)|(refine sxZ ?_;try clear hK K)|refine sxW ?_ ?_<;>intro _|(intro K hK _;conv=>whnf)
  all_goals rfl
 rw [hfw] at cF
 obtain ⟨hn,hout,hce,hcn⟩:=Tr.ans_facts sw x hfw
 have hak:=Cm.ans_ok sw x
 have cm:=kF _ F x pu u (Nat.le_refl _) (by omega) hx
 have cC:=fun G a b (h:Po.At G x a b)=>gu G x a b sw room hs h hce hcn hn hout
 have cD:=fun G (h:F.le G)=>ip G x pu u sw room hs (Po.At.mono h hx) hce hcn hn hout fun c hc=>(hak c hc).1.kn
 obtain ⟨t1,t2,t3,t4⟩:=Cm.tbl_facts (e:=(Tr.ans sw x).2) (room:=room) hn hak
 generalize Cm.tbl (Tr.ans sw x).1 (Tr.ans sw x).2 room=T at *
 have cS:=fun G v w (h:Cm.Row G v T.1) (h2:Cm.Row G w T.1)=>lK G v w T.1 h h2 (by omega) fun x hx=>by have:=(t2 x hx).2.2.2.1;omega
 have cR:=fun (h0:T.2=0) G v (h:Cm.Row G v T.1)=>ny G v T.1 h (by omega) room (t4 h0) 8 (fun x hx=>Cm.in64_of (t2 x hx) (by decide)) t2 t3
 clear hx hfw hce hcn hout hak t2 t3 t4
 obtain ⟨k,⟨pk,pf,pv,pl⟩,a,v,l⟩:=x
 obtain ⟨T,te⟩:=T
 dsimp only at *
 simp only [aY,Po.Lays,Cm.GivesT,Po.T.l,Po.T.p,Pd.T.k,Pd.T.f,Pd.T.v,Pd.T.l] at *
 refine aB Tryz.func4 rfl (by decide) ?_
 by_cases he:te=0
 ·have cR2:=cR he
  clear cR
  subst he
  repeat' first|((try intro K hK);(with_reducible refine gC ?_);first|refine Go.Sx.cS [0] cF ?_|(refine Go.Sx.cN [0] cm ?_;rintro _ _ ⟨F1,a1,u1,hle1,hu1,rfl,rfl⟩;refine Go.Sx.cR ?_)|(refine Go.Sx.cN [0] (cC F1 a1 u1 hu1) ?_;rintro _ _ ⟨F2,w,hle2,hw,hwo,rfl,rfl⟩;refine Go.Sx.cR ?_)|(refine Go.Sx.cN [0] (cD F2 (hle1.trans hle2)) ?_;rintro _ _ ⟨F3,w3,hle3,hw3,hw3o,rfl,rfl⟩;refine Go.Sx.cR ?_)|refine Go.Sx.cS [0] (cS F3 w w3 (Cm.Row.mono hle3 hw) hw3) ?_|refine Go.Sx.cS [0] (cR2 F3 w (Cm.Row.mono hle3 hw)) ?_|refine Go.Sx.cS [0] (cw F3 ((hle1.trans hle2).trans hle3)) ?_)|((first|intro A B hA hB|intro K hK|skip);first|((with_reducible refine NIf.yes ?s ?_);(case s=>simp ;done);conv=>whnf)|((with_reducible refine NIf.no ?s ?_);(case s=>simp ;done);conv=>whnf))|(refine aJ [0] ?_;(try clear hK K);try clear hA hB A B)|refine sxW ?_ ?_<;>intro _|refine aK ?_ ?_|(intro K hK _;conv=>whnf)
  all_goals first | rfl | (exfalso;omega)
 ·clear cR
  repeat' first|((try intro K hK);(with_reducible refine gC ?_);first|refine Go.Sx.cS [0] cF ?_|(refine Go.Sx.cN [0] cm ?_;rintro _ _ ⟨F1,a1,u1,hle1,hu1,rfl,rfl⟩;refine Go.Sx.cR ?_)|(refine Go.Sx.cN [0] (cC F1 a1 u1 hu1) ?_;rintro _ _ ⟨F2,w,hle2,hw,hwo,rfl,rfl⟩;refine Go.Sx.cR ?_)|(refine Go.Sx.cN [0] (cD F2 (hle1.trans hle2)) ?_;rintro _ _ ⟨F3,w3,hle3,hw3,hw3o,rfl,rfl⟩;refine Go.Sx.cR ?_)|refine Go.Sx.cS [0] (cS F3 w w3 (Cm.Row.mono hle3 hw) hw3) ?_|refine Go.Sx.cS [0] (cw F3 ((hle1.trans hle2).trans hle3)) ?_)|((first|intro A B hA hB|intro K hK|skip);first|((with_reducible refine NIf.yes ?s ?_);(case s=>simp [he];done);conv=>whnf)|((with_reducible refine NIf.no ?s ?_);(case s=>simp [he];done);conv=>whnf))|(refine aJ [0] ?_;(try clear hK K);try clear hA hB A B)|refine sxW ?_ ?_<;>intro _|refine aK ?_ ?_|(intro K hK _;conv=>whnf)
  all_goals first | rfl | (exfalso;omega)
end Go.Proofs.YtmehinfgdcmmjaaGreatDoor
