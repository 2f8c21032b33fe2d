import Derived.Test.YtaojbkphcnailaaDoorJ22
namespace Go.Proofs.YtaojbkphcnailaaDoor
open Go.Sx
set_option maxRecDepth 20000
set_option linter.unusedVariables false
namespace Ps
open Lx (B isSp isL isD isS notNl nextB skip toks)
theorem skip_e:skip []=[]:=Lx.skip_nil rfl
theorem dw_app {p:UInt8→Bool}:∀ t u:List UInt8,(t++u).dropWhile p=if t.dropWhile p=[] then u.dropWhile p else t.dropWhile p++u
  | [],u=>by simp
  | c::t,u=>by
    by_cases h:p c=true
    · rw [List.cons_append,List.dropWhile_cons_of_pos h,List.dropWhile_cons_of_pos h,dw_app t u]
    · rw [List.cons_append,List.dropWhile_cons_of_neg h,List.dropWhile_cons_of_neg h,if_neg (by simp),List.cons_append]
theorem skip_nl (y:List UInt8):skip (10::y)=skip y:=by
  have e3:(10::y).dropWhile isSp=y.dropWhile isSp:=List.dropWhile_cons_of_pos (by decide)
  cases hu:y.dropWhile isSp with
  | nil=>rw [Lx.skip_nil (e3.trans hu),Lx.skip_nil hu]
  | cons c r=>rw [Lx.skip_cons (e3.trans hu),Lx.skip_cons hu]
theorem skip_app:∀ (n:Nat) (t:List UInt8),t.length≤n→∀ y,skip (t++10::y)=if skip t=[] then skip y else skip t++10::y
  | 0,t,h,y=>by
    have:t=[]:=List.eq_nil_of_length_eq_zero (by omega)
    subst this
    rw [skip_e,if_pos rfl,List.nil_append,skip_nl]
  | n+1,t,h,y=>by
    have h1:=Lx.dw_len (p:=isSp) t
    have hap:=dw_app (p:=isSp) t (10::y)
    cases hd:t.dropWhile isSp with
    | nil =>
      rw [hd,if_pos rfl] at hap
      rw [Lx.skip_nil hd,if_pos rfl,← skip_nl y]
      cases hu:(10::y).dropWhile isSp with
      | nil=>rw [Lx.skip_nil (hap.trans hu),Lx.skip_nil hu]
      | cons c r=>rw [Lx.skip_cons (hap.trans hu),Lx.skip_cons hu]
    | cons c r =>
      rw [hd,if_neg (by simp),List.cons_append] at hap
      rw [hd] at h1
      simp only [List.length_cons] at h1
      rw [Lx.skip_cons hap,Lx.skip_cons hd]
      by_cases hc:c=35
      · rw [if_pos hc,if_pos hc,dw_app (p:=notNl)]
        have h2:=Lx.dw_len (p:=notNl) r
        by_cases hr:r.dropWhile notNl=[]
        · rw [if_pos hr,hr,skip_e,if_pos rfl,List.dropWhile_cons_of_neg (by decide),skip_nl]
        · rw [if_neg hr]
          exact skip_app n _ (by omega) y
      · rw [if_neg hc,if_neg hc,if_neg (by simp),List.cons_append]
theorem bs_app:∀ (n:Nat) (t:List UInt8),t.length≤n→∀ l,bs t=some l→∀ y,bs (t++10::y)=(bs y).map (l++·)
  | n,t,h,l,hl,y=>by
    have hap:=skip_app t.length t (Nat.le_refl _) y
    by_cases hs:skip t=[]
    · rw [if_pos hs] at hap
      have:bs t=some []:=by rw [← bs_nil];exact bs_skip (by rw [hs,skip_e])
      rw [this] at hl
      injection hl with hl
      subst hl
      rw [bs_skip hap]
      cases bs y<;>rfl
    rw [if_neg hs] at hap
    have hlen:=Lx.skip_len t.length t (Nat.le_refl _)
    obtain ⟨c,r,hcr⟩:∃ c r,skip t=c::r:=by
      cases he:skip t with
      | nil=>exact (hs he).elim
      | cons c r=>exact ⟨c,r,rfl⟩
    have hhd:=Lx.skip_head t.length t (Nat.le_refl _) hcr
    have hself:bs t=bs (skip t):=bs_skip (by rw [hcr,Lx.skip_id hhd.1 hhd.2])
    have hself2:bs (t++10::y)=bs (skip t++10::y):=bs_skip (by rw [hap,hcr,List.cons_append,Lx.skip_id hhd.1 hhd.2])
    rw [hself] at hl
    rw [hself2]
    cases h2:nextB (skip t) with
    | none =>
      have:toks (skip t)=none:=Lx.toks_none (by rw [hcr,Lx.skip_id hhd.1 hhd.2];simp) (by rw [hcr,Lx.skip_id hhd.1 hhd.2,← hcr];exact h2)
      unfold bs at hl
      rw [this] at hl;cases hl
    | some q =>
      obtain ⟨b,m⟩:=q
      have hpos:=Lx.nextB_pos h2
      have h3:=Lx.nextB_ext h2 (y:=(skip t).drop m++10::y) fun d q e=>by
        cases hd:(skip t).drop m with
        | nil =>
          rw [hd,List.nil_append] at e
          injection e with e _
          left;rw [← e];decide
        | cons d' p3 =>
          right
          rw [hd,List.cons_append] at e
          injection e with e _
          rw [e];rfl
      rw [← List.append_assoc,List.take_append_drop] at h3
      have e1:=bs_tok (c:=c) (r:=r) hhd.1 hhd.2 (by rw [← hcr];exact h2)
      have e2:=bs_tok (c:=c) (r:=r++10::y) hhd.1 hhd.2 (by rw [← List.cons_append,← hcr];exact h3)
      rw [← hcr] at e1
      rw [← List.cons_append,← hcr,List.drop_append_of_le_length hpos.2] at e2
      rw [e1] at hl
      obtain ⟨l2,hl2,rfl⟩:=Option.map_eq_some_iff.1 hl
      cases n with
      | zero=>omega
      | succ n =>
        have ih:=bs_app n ((skip t).drop m) (by rw [List.length_drop];omega) l2 hl2 y
        rw [e2,ih,Option.map_map]
        rfl
theorem bs_remark:bs [41,32,35,32,101,110,100]=some [S wShut]:=by
  rw [bs_sign _ (by decide)]
  have:bs [32,35,32,101,110,100]=some []:=by
    rw [← bs_nil]
    refine bs_skip ?_
    rw [skip_e,Lx.skip_cons (c:=35) (r:=[32,101,110,100]) (by decide),if_pos rfl]
    exact Lx.skip_nil (by decide)
  rw [this]
  rfl
theorem bs_around {t:List UInt8} {l:List B} (h:bs t=some l):bs (40::(t++[10,41,32,35,32,101,110,100]))=some (S wOpen::(l++[S wShut])):=by
  rw [bs_sign _ (by decide),bs_app _ t (Nat.le_refl _) l h,bs_remark]
  rfl
theorem nextB_kind {t:List UInt8} {b:B} {n:Nat} (h:nextB t=some (b,n)):b.k≠4:=by
  cases t with
  | nil=>cases h
  | cons c r =>
    rw [Lx.nextB_eq] at h
    repeat' split at h
    all_goals first
      | cases h;done
      | (injection h with h;injection h with h _;rw [← h];intro e;revert e;exact of_decide_eq_true rfl)
theorem bs_kind:∀ (n:Nat) (t:List UInt8),t.length≤n→∀ l,bs t=some l→∀ b∈l,b.k≠4
  | n,t,h,l,hl,b,hb=>by
    unfold bs at hl
    by_cases hs:skip t=[]
    · rw [Lx.toks_nil hs] at hl
      injection hl with hl
      subst hl
      simp at hb
    have hlen:=Lx.skip_len t.length t (Nat.le_refl _)
    cases h2:nextB (skip t) with
    | none=>rw [Lx.toks_none hs h2] at hl;cases hl
    | some q =>
      obtain ⟨c,m⟩:=q
      have hpos:=Lx.nextB_pos h2
      rw [Lx.toks_cons hs h2,Option.map_map] at hl
      obtain ⟨L,hL,rfl⟩:=Option.map_eq_some_iff.1 hl
      simp only [Function.comp_apply,List.map_cons] at hb
      rcases List.mem_cons.1 hb with rfl | hb
      · exact nextB_kind h2
      · cases n with
        | zero=>omega
        | succ n=>exact bs_kind n ((skip t).drop m) (by rw [List.length_drop];omega) _ (by unfold bs;rw [hL];rfl) b hb
end Ps
end Go.Proofs.YtaojbkphcnailaaDoor
namespace Go.Proofs.YtaojbkphcnailaaDoor
open Go.Sx
set_option maxRecDepth 20000
set_option linter.unusedVariables false
namespace Ps
open Lx (B)
def E:B:=⟨4,0,[]⟩
section
variable (L:List B) (hL:∀ b∈L,b.k≠4)
def la:List B:=L++[E]
def lb:List B:=S wOpen::(L++[S wShut])++[E]
theorem la_len:(la L).length=L.length+1:=by simp [la]
theorem lb_len:(lb L).length=L.length+3:=by simp [lb]
theorem tk_lt {i:Nat} (h:i<L.length):tk (la L) i=L[i]∧tk (lb L) (i+1)=L[i]:=by
  unfold tk la lb
  constructor
  · rw [List.getElem?_append_left h,List.getElem?_eq_getElem h];rfl
  · rw [List.cons_append,List.getElem?_cons_succ,List.append_assoc,List.getElem?_append_left h,List.getElem?_eq_getElem h];rfl
theorem tk_ge {i:Nat} (h:L.length≤i):tk (la L) i=E:=by
  unfold tk la
  rw [List.getElem?_append_right h]
  cases hk:i - L.length with
  | zero=>rfl
  | succ k=>simp [E]
theorem tk_shut:tk (lb L) (L.length+1)=S wShut:=by
  unfold tk lb
  rw [List.cons_append,List.getElem?_cons_succ,List.append_assoc,List.getElem?_append_right (Nat.le_refl _),Nat.sub_self]
  rfl
theorem tk_gt {i:Nat} (h:L.length<i):tk (lb L) (i+1)=E:=by
  unfold tk lb
  rw [List.cons_append,List.getElem?_cons_succ,List.append_assoc,List.getElem?_append_right (by omega)]
  obtain ⟨k,hk⟩:∃ k,i - L.length=k+1:=⟨i - L.length - 1,by omega⟩
  rw [hk]
  cases k with
  | zero=>rfl
  | succ k=>simp [E]
theorem is_E {l:List B} {i:Nat} (h:tk l i=E) (w:List UInt8):is l i w=false:=by
  unfold is
  rw [h]
  rfl
theorem is_lt {i:Nat} {w:List UInt8} (h:is (la L) i w=true):i<L.length:=by
  rcases Nat.lt_or_ge i L.length with h1 | h1
  · exact h1
  · rw [is_E (tk_ge L h1)] at h;cases h
theorem is_same (i:Nat) {w:List UInt8} (hw:w≠wShut):is (lb L) (i+1) w=is (la L) i w:=by
  rcases Nat.lt_trichotomy i L.length with h | rfl | h
  · unfold is
    rw [(tk_lt L h).1,(tk_lt L h).2]
  · rw [is_E (tk_ge L (Nat.le_refl _))]
    unfold is
    rw [tk_shut]
    have:decide ((S wShut).s=w)=false:=decide_eq_false fun e=>hw e.symm
    rw [this,Bool.and_false]
  · rw [is_E (tk_ge L (by omega)),is_E (tk_gt L h)]
theorem is_shut {i:Nat} (h:is (la L) i wShut=true):is (lb L) (i+1) wShut=true:=by
  have hi:=is_lt L h
  unfold is at h ⊢
  rw [(tk_lt L hi).1] at h
  rw [(tk_lt L hi).2]
  exact h
theorem num_lt {i:Nat} (h:(tk (la L) i).k=2):i<L.length∧tk (lb L) (i+1)=tk (la L) i:=by
  rcases Nat.lt_or_ge i L.length with h1 | h1
  · exact ⟨h1,by rw [(tk_lt L h1).1,(tk_lt L h1).2]⟩
  · rw [tk_ge L h1] at h;cases h
theorem field_eq (i many:Nat):field (lb L) (i+1) many=field (la L) i many:=by
  unfold field
  rcases Nat.lt_trichotomy i L.length with h | rfl | h
  · rw [(tk_lt L h).1,(tk_lt L h).2]
  · rw [tk_ge L (Nat.le_refl _),tk_shut];rfl
  · rw [tk_ge L (by omega),tk_gt L h]
def Sim {α:Type} (one one':Nat→R α):Prop:=∀ i x j,i≤L.length→one i = .ok x j→j≤L.length∧one' (i+1) = .ok x (j+1)
theorem more_sim {α:Type} {one one':Nat→R α} (h:Sim L one one') {b:List UInt8} (hb:b≠wShut):∀ (n:Nat) (acc:List α) (i:Nat) (xs:List α) (j:Nat),i≤L.length→more (la L) b one n acc i = .ok xs j→∀ n',n≤n'→j≤L.length∧more (lb L) b one' n' acc (i+1) = .ok xs (j+1)
  | 0,acc,i,xs,j,hi,he,n',_=>by rw [more] at he;cases he
  | n+1,acc,i,xs,j,hi,he,0,hn=>by omega
  | n+1,acc,i,xs,j,hi,he,n'+1,hn=>by
    rw [more] at he ⊢
    rw [is_same L i hb]
    by_cases hw:is (la L) i b=true
    · rw [if_pos hw] at he ⊢
      cases ho:one (i+1) with
      | bad k=>rw [ho] at he;cases he
      | ok x k =>
        rw [ho] at he
        obtain ⟨h1,h2⟩:=h (i+1) x k (is_lt L hw) ho
        rw [h2]
        exact more_sim h hb n _ k xs j h1 he n' (by omega)
    · rw [if_neg hw] at he ⊢
      cases he
      exact ⟨hi,rfl⟩
theorem chain_sim {α:Type} {one one':Nat→R α} (h:Sim L one one') {b:List UInt8} (hb:b≠wShut):Sim L (chain (la L) b one) (chain (lb L) b one'):=by
  intro i xs j hi he
  unfold chain at he ⊢
  cases ho:one i with
  | bad k=>rw [ho] at he;cases he
  | ok x k =>
    rw [ho] at he
    obtain ⟨h1,h2⟩:=h i x k hi ho
    rw [h2]
    exact more_sim L h hb _ _ k xs j h1 he _ (by rw [la_len,lb_len];omega)
theorem wrap_sim {α:Type} {f:List α→α} {one one':Nat→R (List α)} (h:Sim L one one'):Sim L (fun i=>wrap f (one i)) (fun i=>wrap f (one' i)):=by
  intro i x j hi he
  dsimp only at he ⊢
  cases ho:one i with
  | bad k=>rw [ho] at he;cases he
  | ok xs k =>
    rw [ho] at he
    obtain ⟨h1,h2⟩:=h i xs k hi ho
    rw [h2]
    rcases xs with _ | ⟨x0,_ | ⟨x1,xs⟩⟩<;>(cases he;exact ⟨h1,rfl⟩)
theorem shut_sim {α:Type} {one one':Nat→R α} (h:Sim L one one') {i:Nat} {x:α} {j:Nat} (hi:i≤L.length) (he:shut (la L) (one i) = .ok x j):j≤L.length∧shut (lb L) (one' (i+1)) = .ok x (j+1):=by
  cases ho:one i with
  | bad k=>rw [ho] at he;cases he
  | ok y k =>
    rw [ho] at he
    obtain ⟨h1,h2⟩:=h i y k hi ho
    rw [h2]
    unfold shut at he ⊢
    dsimp only at he ⊢
    by_cases hw:is (la L) k wShut=true
    · rw [if_pos hw] at he
      rw [if_pos (is_shut L hw)]
      cases he
      exact ⟨is_lt L hw,rfl⟩
    · rw [if_neg hw] at he;cases he
theorem assign_sim {many:Nat} {sign:List UInt8} (hs:sign≠wShut) {i:Nat} {x:Int × Int} {j:Nat} (he:assign (la L) many sign i = .ok x j):j≤L.length∧assign (lb L) many sign (i+1) = .ok x (j+1):=by
  unfold assign at he ⊢
  rw [field_eq]
  cases hf:field (la L) i many with
  | none=>rw [hf] at he;cases he
  | some f =>
    rw [hf] at he
    dsimp only at he ⊢
    rw [is_same L (i+1) hs]
    by_cases hw:is (la L) (i+1) sign=true
    · rw [if_pos hw] at he ⊢
      by_cases hk:(tk (la L) (i+2)).k=2
      · rw [if_pos hk] at he
        obtain ⟨h1,h2⟩:=num_lt L hk
        rw [show i+1+2=i+2+1 from rfl,h2,if_pos hk]
        cases he
        exact ⟨h1,rfl⟩
      · rw [if_neg hk] at he;cases he
    · rw [if_neg hw] at he;cases he
theorem cond_sim {one one':Nat→R Pd.T} (h:Sim L one one'):Sim L (cond (la L) one) (cond (lb L) one') :=
  wrap_sim L (chain_sim L (wrap_sim L (chain_sim L h (by decide))) (by decide))
theorem rows_sim {one one':Nat→R Po.T} (h:Sim L one one'):Sim L (rows (la L) one) (rows (lb L) one') :=
  wrap_sim L (chain_sim L (wrap_sim L (chain_sim L h (by decide))) (by decide))
theorem part_sim:∀ n n':Nat,n≤n'→Sim L (part (la L) n) (part (lb L) n')
  | 0,n',_=>fun i x j hi he=>by rw [part] at he;cases he
  | n+1,0,h=>by omega
  | n+1,n'+1,h=>fun i x j hi he=>by
    have ih:=part_sim n n' (by omega)
    rw [part] at he ⊢
    rw [is_same L i (by decide),is_same L i (by decide),is_same L i (by decide),is_same L i (by decide)]
    by_cases h1:is (la L) i wTrue=true
    · rw [if_pos h1] at he ⊢
      cases he
      exact ⟨is_lt L h1,rfl⟩
    rw [if_neg h1] at he ⊢
    by_cases h2:is (la L) i wFalse=true
    · rw [if_pos h2] at he ⊢
      cases he
      exact ⟨is_lt L h2,rfl⟩
    rw [if_neg h2] at he ⊢
    by_cases h3:is (la L) i wNot=true
    · rw [if_pos h3] at he ⊢
      cases ho:part (la L) n (i+1) with
      | bad k=>rw [ho] at he;cases he
      | ok y k =>
        rw [ho] at he
        obtain ⟨g1,g2⟩:=ih (i+1) y k (is_lt L h3) ho
        rw [g2]
        cases he
        exact ⟨g1,rfl⟩
    rw [if_neg h3] at he ⊢
    by_cases h4:is (la L) i wOpen=true
    · rw [if_pos h4] at he ⊢
      exact shut_sim L (cond_sim L ih) (is_lt L h4) he
    rw [if_neg h4] at he ⊢
    cases ho:assign (la L) 6 wEq i with
    | bad k=>rw [ho] at he;cases he
    | ok y k =>
      obtain ⟨f,v⟩:=y
      rw [ho] at he
      obtain ⟨g1,g2⟩:=assign_sim L (by decide) ho
      rw [g2]
      cases he
      exact ⟨g1,rfl⟩
theorem choice_sim {cnd cnd':Nat→R Pd.T} (hc:Sim L cnd cnd') {step step':Nat→R Po.T} (hs:Sim L step step') {i:Nat} {x:Po.T} {j:Nat} (hi:i≤L.length) (he:choice (la L) cnd step i = .ok x j):j≤L.length∧choice (lb L) cnd' step' (i+1) = .ok x (j+1):=by
  unfold choice at he ⊢
  cases ho:cnd i with
  | bad k=>rw [ho] at he;cases he
  | ok c k =>
    rw [ho] at he
    obtain ⟨g1,g2⟩:=hc i c k hi ho
    rw [g2]
    dsimp only at he ⊢
    rw [is_same L k (by decide)]
    by_cases h1:is (la L) k wThen=true
    · rw [if_pos h1] at he ⊢
      cases ha:step (k+1) with
      | bad q=>rw [ha] at he;cases he
      | ok a q =>
        rw [ha] at he
        obtain ⟨g3,g4⟩:=hs (k+1) a q (is_lt L h1) ha
        rw [g4]
        dsimp only at he ⊢
        rw [is_same L q (by decide)]
        by_cases h2:is (la L) q wElse=true
        · rw [if_pos h2] at he ⊢
          cases hb:step (q+1) with
          | bad r=>rw [hb] at he;cases he
          | ok b r =>
            rw [hb] at he
            obtain ⟨g5,g6⟩:=hs (q+1) b r (is_lt L h2) hb
            rw [g6]
            cases he
            exact ⟨g5,rfl⟩
        · rw [if_neg h2] at he;cases he
    · rw [if_neg h1] at he;cases he
theorem step_sim:∀ n n':Nat,n≤n'→Sim L (step (la L) n) (step (lb L) n')
  | 0,n',_=>fun i x j hi he=>by rw [step] at he;cases he
  | n+1,0,h=>by omega
  | n+1,n'+1,h=>fun i x j hi he=>by
    have ih:=step_sim n n' (by omega)
    have ihp:=cond_sim L (part_sim L (la L).length (lb L).length (by rw [la_len,lb_len];omega))
    rw [step] at he ⊢
    rw [is_same L i (by decide),is_same L i (by decide),is_same L i (by decide),is_same L i (by decide),is_same L i (by decide)]
    by_cases h1:is (la L) i wDrop=true
    · rw [if_pos h1] at he ⊢
      cases he
      exact ⟨is_lt L h1,rfl⟩
    rw [if_neg h1] at he ⊢
    by_cases h2:is (la L) i wId=true
    · rw [if_pos h2] at he ⊢
      cases he
      exact ⟨is_lt L h2,rfl⟩
    rw [if_neg h2] at he ⊢
    by_cases h3:is (la L) i wWhen=true
    · rw [if_pos h3] at he ⊢
      cases ho:cond (la L) (part (la L) (la L).length) (i+1) with
      | bad k=>rw [ho] at he;cases he
      | ok y k =>
        rw [ho] at he
        obtain ⟨g1,g2⟩:=ihp (i+1) y k (is_lt L h3) ho
        rw [g2]
        cases he
        exact ⟨g1,rfl⟩
    rw [if_neg h3] at he ⊢
    by_cases h5:is (la L) i wIf=true
    · rw [if_pos h5] at he ⊢
      exact choice_sim L ihp ih (is_lt L h5) he
    rw [if_neg h5] at he ⊢
    by_cases h4:is (la L) i wOpen=true
    · rw [if_pos h4] at he ⊢
      exact shut_sim L (rows_sim L ih) (is_lt L h4) he
    rw [if_neg h4] at he ⊢
    cases ho:assign (la L) 5 wSet i with
    | bad k=>rw [ho] at he;cases he
    | ok y k =>
      obtain ⟨f,v⟩:=y
      rw [ho] at he
      obtain ⟨g1,g2⟩:=assign_sim L (by decide) ho
      rw [g2]
      cases he
      exact ⟨g1,rfl⟩
include hL
theorem brackets {x:Po.T} (h:whole (la L) (rows (la L) (step (la L) (la L).length) 0) = .ok x 0):whole (lb L) (rows (lb L) (step (lb L) (lb L).length) 0) = .ok x 0:=by
  cases ho:rows (la L) (step (la L) (la L).length) 0 with
  | bad k=>rw [ho] at h;cases h
  | ok y k =>
    rw [ho] at h
    unfold whole at h
    dsimp only at h
    by_cases hk:(tk (la L) k).k=4
    · rw [if_pos hk] at h
      cases h
      have hs:Sim L (rows (la L) (step (la L) (la L).length)) (rows (lb L) (step (lb L) (L.length+2))):=rows_sim L (step_sim L _ _ (by rw [la_len];omega))
      obtain ⟨h1,h2⟩:=hs 0 x k (Nat.zero_le _) ho
      have hkN:k=L.length:=by
        rcases Nat.lt_or_ge k L.length with h3 | h3
        · rw [(tk_lt L h3).1] at hk
          exact (hL _ (List.getElem_mem h3) hk).elim
        · omega
      subst hkN
      have hsh:is (lb L) (L.length+1) wShut=true:=by
        unfold is
        rw [tk_shut];rfl
      have hE:tk (lb L) (L.length+2)=E:=tk_gt L (Nat.lt_succ_self _)
      have h0:tk (lb L) 0=S wOpen:=rfl
      have hst:step (lb L) (lb L).length 0 = .ok x (L.length+2):=by
        rw [lb_len,step]
        have hi:∀ w,is (lb L) 0 w=decide (wOpen=w):=fun w=>by
          unfold is
          rw [h0];rfl
        rw [hi,hi,hi,hi,hi,if_neg (by decide),if_neg (by decide),if_neg (by decide),if_neg (by decide),if_pos (by decide),h2]
        unfold shut
        dsimp only
        rw [if_pos hsh]
      have hch:∀ (b:List UInt8) (one:Nat→R Po.T),one 0 = .ok x (L.length+2)→chain (lb L) b one 0 = .ok [x] (L.length+2):=fun b one h1=>by
        unfold chain
        rw [h1]
        dsimp only
        rw [lb_len,show L.length+3+1 - (L.length+2)=1+1 by omega,more,is_E hE,if_neg (by decide)]
      have hrow:row (lb L) (step (lb L) (lb L).length) 0 = .ok x (L.length+2):=by
        unfold row
        rw [hch _ _ hst];rfl
      have hrows:rows (lb L) (step (lb L) (lb L).length) 0 = .ok x (L.length+2):=by
        unfold rows
        rw [hch _ _ hrow];rfl
      rw [hrows]
      unfold whole
      dsimp only
      rw [hE];exact if_pos rfl
    · rw [if_neg hk] at h;cases h
end
end Ps
end Go.Proofs.YtaojbkphcnailaaDoor
