import Derived.Test.YtaojbkphcnailaaDoorJ28
namespace Go.Proofs.YtaojbkphcnailaaDoor
open Go.Sx
set_option maxRecDepth 20000
set_option linter.unusedVariables false
namespace Ps
open Lx (B isSp isL isD isS notNl nextB skip toks)
end Ps
end Go.Proofs.YtaojbkphcnailaaDoor
namespace Go.Proofs.YtaojbkphcnailaaDoor
open Go.Sx
set_option maxRecDepth 20000
set_option linter.unusedVariables false
namespace Ps
open Lx (B)
def E:B:=⟨4,0,[]⟩
section
variable (L:List B) (hL:∀ b∈L,b.k≠4)
def la:List B:=L++[E]
def lb:List B:=S wOpen::(L++[S wShut])++[E]
theorem la_len:(la L).length=L.length+1:=by simp [la]
theorem lb_len:(lb L).length=L.length+3:=by simp [lb]
theorem tk_lt {i:Nat} (h:i<L.length):tk (la L) i=L[i]∧tk (lb L) (i+1)=L[i]:=by
  unfold tk la lb
  constructor
  · rw [List.getElem?_append_left h,List.getElem?_eq_getElem h];rfl
  · rw [List.cons_append,List.getElem?_cons_succ,List.append_assoc,List.getElem?_append_left h,List.getElem?_eq_getElem h];rfl
theorem tk_ge {i:Nat} (h:L.length≤i):tk (la L) i=E:=by
  unfold tk la
  rw [List.getElem?_append_right h]
  cases hk:i - L.length with
  | zero=>rfl
  | succ k=>simp [E]
theorem tk_shut:tk (lb L) (L.length+1)=S wShut:=by
  unfold tk lb
  rw [List.cons_append,List.getElem?_cons_succ,List.append_assoc,List.getElem?_append_right (Nat.le_refl _),Nat.sub_self]
  rfl
theorem tk_gt {i:Nat} (h:L.length<i):tk (lb L) (i+1)=E:=by
  unfold tk lb
  rw [List.cons_append,List.getElem?_cons_succ,List.append_assoc,List.getElem?_append_right (by omega)]
  obtain ⟨k,hk⟩:∃ k,i - L.length=k+1:=⟨i - L.length - 1,by omega⟩
  rw [hk]
  cases k with
  | zero=>rfl
  | succ k=>simp [E]
theorem is_E {l:List B} {i:Nat} (h:tk l i=E) (w:List UInt8):is l i w=false:=by
  unfold is
  rw [h]
  rfl
theorem is_lt {i:Nat} {w:List UInt8} (h:is (la L) i w=true):i<L.length:=by
  rcases Nat.lt_or_ge i L.length with h1 | h1
  · exact h1
  · rw [is_E (tk_ge L h1)] at h;cases h
theorem is_same (i:Nat) {w:List UInt8} (hw:w≠wShut):is (lb L) (i+1) w=is (la L) i w:=by
  rcases Nat.lt_trichotomy i L.length with h | rfl | h
  · unfold is
    rw [(tk_lt L h).1,(tk_lt L h).2]
  · rw [is_E (tk_ge L (Nat.le_refl _))]
    unfold is
    rw [tk_shut]
    have:decide ((S wShut).s=w)=false:=decide_eq_false fun e=>hw e.symm
    rw [this,Bool.and_false]
  · rw [is_E (tk_ge L (by omega)),is_E (tk_gt L h)]
theorem is_shut {i:Nat} (h:is (la L) i wShut=true):is (lb L) (i+1) wShut=true:=by
  have hi:=is_lt L h
  unfold is at h ⊢
  rw [(tk_lt L hi).1] at h
  rw [(tk_lt L hi).2]
  exact h
theorem num_lt {i:Nat} (h:(tk (la L) i).k=2):i<L.length∧tk (lb L) (i+1)=tk (la L) i:=by
  rcases Nat.lt_or_ge i L.length with h1 | h1
  · exact ⟨h1,by rw [(tk_lt L h1).1,(tk_lt L h1).2]⟩
  · rw [tk_ge L h1] at h;cases h
theorem field_eq (i many:Nat):field (lb L) (i+1) many=field (la L) i many:=by
  unfold field
  rcases Nat.lt_trichotomy i L.length with h | rfl | h
  · rw [(tk_lt L h).1,(tk_lt L h).2]
  · rw [tk_ge L (Nat.le_refl _),tk_shut];rfl
  · rw [tk_ge L (by omega),tk_gt L h]
def Sim {α:Type} (one one':Nat→R α):Prop:=∀ i x j,i≤L.length→one i = .ok x j→j≤L.length∧one' (i+1) = .ok x (j+1)
theorem more_sim {α:Type} {one one':Nat→R α} (h:Sim L one one') {b:List UInt8} (hb:b≠wShut):∀ (n:Nat) (acc:List α) (i:Nat) (xs:List α) (j:Nat),i≤L.length→more (la L) b one n acc i = .ok xs j→∀ n',n≤n'→j≤L.length∧more (lb L) b one' n' acc (i+1) = .ok xs (j+1)
  | 0,acc,i,xs,j,hi,he,n',_=>by rw [more] at he;cases he
  | n+1,acc,i,xs,j,hi,he,0,hn=>by omega
  | n+1,acc,i,xs,j,hi,he,n'+1,hn=>by
    rw [more] at he ⊢
    rw [is_same L i hb]
    by_cases hw:is (la L) i b=true
    · rw [if_pos hw] at he ⊢
      cases ho:one (i+1) with
      | bad k=>rw [ho] at he;cases he
      | ok x k =>
        rw [ho] at he
        obtain ⟨h1,h2⟩:=h (i+1) x k (is_lt L hw) ho
        rw [h2]
        exact more_sim h hb n _ k xs j h1 he n' (by omega)
    · rw [if_neg hw] at he ⊢
      cases he
      exact ⟨hi,rfl⟩
theorem chain_sim {α:Type} {one one':Nat→R α} (h:Sim L one one') {b:List UInt8} (hb:b≠wShut):Sim L (chain (la L) b one) (chain (lb L) b one'):=by
  intro i xs j hi he
  unfold chain at he ⊢
  cases ho:one i with
  | bad k=>rw [ho] at he;cases he
  | ok x k =>
    rw [ho] at he
    obtain ⟨h1,h2⟩:=h i x k hi ho
    rw [h2]
    exact more_sim L h hb _ _ k xs j h1 he _ (by rw [la_len,lb_len];omega)
theorem wrap_sim {α:Type} {f:List α→α} {one one':Nat→R (List α)} (h:Sim L one one'):Sim L (fun i=>wrap f (one i)) (fun i=>wrap f (one' i)):=by
  intro i x j hi he
  dsimp only at he ⊢
  cases ho:one i with
  | bad k=>rw [ho] at he;cases he
  | ok xs k =>
    rw [ho] at he
    obtain ⟨h1,h2⟩:=h i xs k hi ho
    rw [h2]
    rcases xs with _ | ⟨x0,_ | ⟨x1,xs⟩⟩<;>(cases he;exact ⟨h1,rfl⟩)
theorem shut_sim {α:Type} {one one':Nat→R α} (h:Sim L one one') {i:Nat} {x:α} {j:Nat} (hi:i≤L.length) (he:shut (la L) (one i) = .ok x j):j≤L.length∧shut (lb L) (one' (i+1)) = .ok x (j+1):=by
  cases ho:one i with
  | bad k=>rw [ho] at he;cases he
  | ok y k =>
    rw [ho] at he
    obtain ⟨h1,h2⟩:=h i y k hi ho
    rw [h2]
    unfold shut at he ⊢
    dsimp only at he ⊢
    by_cases hw:is (la L) k wShut=true
    · rw [if_pos hw] at he
      rw [if_pos (is_shut L hw)]
      cases he
      exact ⟨is_lt L hw,rfl⟩
    · rw [if_neg hw] at he;cases he
theorem assign_sim {many:Nat} {sign:List UInt8} (hs:sign≠wShut) {i:Nat} {x:Int × Int} {j:Nat} (he:assign (la L) many sign i = .ok x j):j≤L.length∧assign (lb L) many sign (i+1) = .ok x (j+1):=by
  unfold assign at he ⊢
  rw [field_eq]
  cases hf:field (la L) i many with
  | none=>rw [hf] at he;cases he
  | some f =>
    rw [hf] at he
    dsimp only at he ⊢
    rw [is_same L (i+1) hs]
    by_cases hw:is (la L) (i+1) sign=true
    · rw [if_pos hw] at he ⊢
      by_cases hk:(tk (la L) (i+2)).k=2
      · rw [if_pos hk] at he
        obtain ⟨h1,h2⟩:=num_lt L hk
        rw [show i+1+2=i+2+1 from rfl,h2,if_pos hk]
        cases he
        exact ⟨h1,rfl⟩
      · rw [if_neg hk] at he;cases he
    · rw [if_neg hw] at he;cases he
theorem cond_sim {one one':Nat→R Pd.T} (h:Sim L one one'):Sim L (cond (la L) one) (cond (lb L) one') :=
  wrap_sim L (chain_sim L (wrap_sim L (chain_sim L h (by decide))) (by decide))
theorem rows_sim {one one':Nat→R Po.T} (h:Sim L one one'):Sim L (rows (la L) one) (rows (lb L) one') :=
  wrap_sim L (chain_sim L (wrap_sim L (chain_sim L h (by decide))) (by decide))
theorem part_sim:∀ n n':Nat,n≤n'→Sim L (part (la L) n) (part (lb L) n')
  | 0,n',_=>fun i x j hi he=>by rw [part] at he;cases he
  | n+1,0,h=>by omega
  | n+1,n'+1,h=>fun i x j hi he=>by
    have ih:=part_sim n n' (by omega)
    rw [part] at he ⊢
    rw [is_same L i (by decide),is_same L i (by decide),is_same L i (by decide),is_same L i (by decide)]
    by_cases h1:is (la L) i wTrue=true
    · rw [if_pos h1] at he ⊢
      cases he
      exact ⟨is_lt L h1,rfl⟩
    rw [if_neg h1] at he ⊢
    by_cases h2:is (la L) i wFalse=true
    · rw [if_pos h2] at he ⊢
      cases he
      exact ⟨is_lt L h2,rfl⟩
    rw [if_neg h2] at he ⊢
    by_cases h3:is (la L) i wNot=true
    · rw [if_pos h3] at he ⊢
      cases ho:part (la L) n (i+1) with
      | bad k=>rw [ho] at he;cases he
      | ok y k =>
        rw [ho] at he
        obtain ⟨g1,g2⟩:=ih (i+1) y k (is_lt L h3) ho
        rw [g2]
        cases he
        exact ⟨g1,rfl⟩
    rw [if_neg h3] at he ⊢
    by_cases h4:is (la L) i wOpen=true
    · rw [if_pos h4] at he ⊢
      exact shut_sim L (cond_sim L ih) (is_lt L h4) he
    rw [if_neg h4] at he ⊢
    cases ho:assign (la L) 6 wEq i with
    | bad k=>rw [ho] at he;cases he
    | ok y k =>
      obtain ⟨f,v⟩:=y
      rw [ho] at he
      obtain ⟨g1,g2⟩:=assign_sim L (by decide) ho
      rw [g2]
      cases he
      exact ⟨g1,rfl⟩
theorem choice_sim {cnd cnd':Nat→R Pd.T} (hc:Sim L cnd cnd') {step step':Nat→R Po.T} (hs:Sim L step step') {i:Nat} {x:Po.T} {j:Nat} (hi:i≤L.length) (he:choice (la L) cnd step i = .ok x j):j≤L.length∧choice (lb L) cnd' step' (i+1) = .ok x (j+1):=by
  unfold choice at he ⊢
  cases ho:cnd i with
  | bad k=>rw [ho] at he;cases he
  | ok c k =>
    rw [ho] at he
    obtain ⟨g1,g2⟩:=hc i c k hi ho
    rw [g2]
    dsimp only at he ⊢
    rw [is_same L k (by decide)]
    by_cases h1:is (la L) k wThen=true
    · rw [if_pos h1] at he ⊢
      cases ha:step (k+1) with
      | bad q=>rw [ha] at he;cases he
      | ok a q =>
        rw [ha] at he
        obtain ⟨g3,g4⟩:=hs (k+1) a q (is_lt L h1) ha
        rw [g4]
        dsimp only at he ⊢
        rw [is_same L q (by decide)]
        by_cases h2:is (la L) q wElse=true
        · rw [if_pos h2] at he ⊢
          cases hb:step (q+1) with
          | bad r=>rw [hb] at he;cases he
          | ok b r =>
            rw [hb] at he
            obtain ⟨g5,g6⟩:=hs (q+1) b r (is_lt L h2) hb
            rw [g6]
            cases he
            exact ⟨g5,rfl⟩
        · rw [if_neg h2] at he;cases he
    · rw [if_neg h1] at he;cases he
theorem step_sim:∀ n n':Nat,n≤n'→Sim L (step (la L) n) (step (lb L) n')
  | 0,n',_=>fun i x j hi he=>by rw [step] at he;cases he
  | n+1,0,h=>by omega
  | n+1,n'+1,h=>fun i x j hi he=>by
    have ih:=step_sim n n' (by omega)
    have ihp:=cond_sim L (part_sim L (la L).length (lb L).length (by rw [la_len,lb_len];omega))
    rw [step] at he ⊢
    rw [is_same L i (by decide),is_same L i (by decide),is_same L i (by decide),is_same L i (by decide),is_same L i (by decide)]
    by_cases h1:is (la L) i wDrop=true
    · rw [if_pos h1] at he ⊢
      cases he
      exact ⟨is_lt L h1,rfl⟩
    rw [if_neg h1] at he ⊢
    by_cases h2:is (la L) i wId=true
    · rw [if_pos h2] at he ⊢
      cases he
      exact ⟨is_lt L h2,rfl⟩
    rw [if_neg h2] at he ⊢
    by_cases h3:is (la L) i wWhen=true
    · rw [if_pos h3] at he ⊢
      cases ho:cond (la L) (part (la L) (la L).length) (i+1) with
      | bad k=>rw [ho] at he;cases he
      | ok y k =>
        rw [ho] at he
        obtain ⟨g1,g2⟩:=ihp (i+1) y k (is_lt L h3) ho
        rw [g2]
        cases he
        exact ⟨g1,rfl⟩
    rw [if_neg h3] at he ⊢
    by_cases h5:is (la L) i wIf=true
    · rw [if_pos h5] at he ⊢
      exact choice_sim L ihp ih (is_lt L h5) he
    rw [if_neg h5] at he ⊢
    by_cases h4:is (la L) i wOpen=true
    · rw [if_pos h4] at he ⊢
      exact shut_sim L (rows_sim L ih) (is_lt L h4) he
    rw [if_neg h4] at he ⊢
    cases ho:assign (la L) 5 wSet i with
    | bad k=>rw [ho] at he;cases he
    | ok y k =>
      obtain ⟨f,v⟩:=y
      rw [ho] at he
      obtain ⟨g1,g2⟩:=assign_sim L (by decide) ho
      rw [g2]
      cases he
      exact ⟨g1,rfl⟩
include hL
end
end Ps
end Go.Proofs.YtaojbkphcnailaaDoor
