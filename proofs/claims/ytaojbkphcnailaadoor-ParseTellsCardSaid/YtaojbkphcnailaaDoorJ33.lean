import Derived.Test.YtaojbkphcnailaaDoorJ32
import Derived.Test.YtaojbkphcnailaaDoorJ31
namespace Go.Proofs.YtaojbkphcnailaaDoor
open Go.Sx
set_option maxRecDepth 20000
set_option linter.unusedVariables false
namespace Ps
open Lx (B)
theorem sizeS (l:List Pd.T):Pd.sizeL l=(l.map Pd.size).sum:=by
  induction l with
  | nil=>rfl
  | cons x l ih=>rw [Pd.sizeL,ih];rfl
theorem totS (l:List Po.T):Po.totL l=(l.map Po.tot).sum:=by
  induction l with
  | nil=>rfl
  | cons x l ih=>rw [Po.totL,ih];rfl
section
variable (l:List B)
def Bd {α:Type} (sz:α→Nat) (one:Nat→R α):Prop:=∀ i x j,one i = .ok x j→i<j∧sz x≤8*(j - i)
theorem more_bd {α:Type} {sz:α→Nat} {one:Nat→R α} (h:Bd sz one) (b:List UInt8):∀ (n:Nat) (acc:List α) (i:Nat) (xs:List α) (j:Nat),more l b one n acc i = .ok xs j→i≤j∧acc.length≤xs.length∧(xs.map sz).sum+8*(xs.length - acc.length)≤(acc.map sz).sum+8*(j - i)
  | 0,acc,i,xs,j,he=>by rw [more] at he;cases he
  | n+1,acc,i,xs,j,he=>by
    rw [more] at he
    by_cases hw:is l i b=true
    · rw [if_pos hw] at he
      cases ho:one (i+1) with
      | bad k=>rw [ho] at he;cases he
      | ok x k =>
        rw [ho] at he
        obtain ⟨h1,h2⟩:=h (i+1) x k ho
        obtain ⟨h3,h4,h5⟩:=more_bd h b n _ k xs j he
        rw [List.length_append,List.map_append,List.sum_append] at *
        simp only [List.length_cons,List.length_nil,List.map_cons,List.map_nil,List.sum_cons,List.sum_nil] at *
        omega
    · rw [if_neg hw] at he
      cases he
      omega
theorem chain_bd {α:Type} {sz:α→Nat} {one:Nat→R α} (h:Bd sz one) (b:List UInt8) (i:Nat) (xs:List α) (j:Nat) (he:chain l b one i = .ok xs j):i<j∧1≤xs.length∧(xs.map sz).sum+8*(xs.length - 1)≤8*(j - i):=by
  unfold chain at he
  cases ho:one i with
  | bad k=>rw [ho] at he;cases he
  | ok x k =>
    rw [ho] at he
    obtain ⟨h1,h2⟩:=h i x k ho
    obtain ⟨h3,h4,h5⟩:=more_bd l h b _ _ k xs j he
    simp only [List.length_cons,List.length_nil,List.map_cons,List.map_nil,List.sum_cons,List.sum_nil] at *
    omega
theorem wrap_bd {α:Type} {sz:α→Nat} {one:Nat→R α} (h:Bd sz one) (b:List UInt8) (f:List α→α) (hf:∀ xs,sz (f xs)≤(xs.map sz).sum+8):Bd sz (fun i=>wrap f (chain l b one i)):=by
  intro i x j he
  dsimp only at he
  cases ho:chain l b one i with
  | bad k=>rw [ho] at he;cases he
  | ok xs k =>
    rw [ho] at he
    obtain ⟨h1,h2,h3⟩:=chain_bd l h b i xs k ho
    rcases xs with _ | ⟨x0,_ | ⟨x1,xs⟩⟩
    · simp at h2
    · cases he
      simp at h3
      exact ⟨h1,h3⟩
    · cases he
      have:=hf (x0::x1::xs)
      simp only [List.length_cons] at h3
      exact ⟨h1,by omega⟩
theorem shut_bd {α:Type} {sz:α→Nat} {one:Nat→R α} (h:Bd sz one) {i:Nat} {x:α} {j:Nat} (he:shut l (one i) = .ok x j):i<j∧sz x≤8*(j - i):=by
  cases ho:one i with
  | bad k=>rw [ho] at he;cases he
  | ok y k =>
    rw [ho] at he
    obtain ⟨h1,h2⟩:=h i y k ho
    unfold shut at he
    dsimp only at he
    by_cases hw:is l k wShut=true
    · rw [if_pos hw] at he
      cases he
      exact ⟨by omega,by omega⟩
    · rw [if_neg hw] at he;cases he
theorem assign_bd {many:Nat} {sign:List UInt8} {i:Nat} {x:Int × Int} {j:Nat} (he:assign l many sign i = .ok x j):j=i+3:=by
  unfold assign at he
  cases hf:field l i many with
  | none=>rw [hf] at he;cases he
  | some f =>
    rw [hf] at he
    dsimp only at he
    split at he
    · split at he
      · cases he;rfl
      · cases he
    · cases he
theorem cond_bd {one:Nat→R Pd.T} (h:Bd Pd.size one):Bd Pd.size (cond l one) :=
  wrap_bd l (wrap_bd l h wAnd _ fun xs=>by rw [Pd.size,sizeS];omega) wOr _ fun xs=>by rw [Pd.size,sizeS];omega
theorem rows_bd {one:Nat→R Po.T} (h:Bd Po.tot one):Bd Po.tot (rows l one) :=
  wrap_bd l (wrap_bd l h wSemi _ fun xs=>by rw [Po.tot,totS];simp only [none26,Pd.size,Pd.sizeL];omega) wBar _ fun xs=>by rw [Po.tot,totS];simp only [none26,Pd.size,Pd.sizeL];omega
theorem part_bd:∀ n:Nat,Bd Pd.size (part l n)
  | 0=>fun i x j he=>by rw [part] at he;cases he
  | n+1=>fun i x j he=>by
    have ih:=part_bd n
    rw [part] at he
    split at he
    · cases he;exact ⟨by omega,by simp only [Pd.size,Pd.sizeL];omega⟩
    split at he
    · cases he;exact ⟨by omega,by simp only [Pd.size,Pd.sizeL];omega⟩
    split at he
    · cases ho:part l n (i+1) with
      | bad k=>rw [ho] at he;cases he
      | ok y k =>
        rw [ho] at he
        have:=ih _ _ _ ho
        cases he;exact ⟨by omega,by simp only [Pd.size,Pd.sizeL];omega⟩
    split at he
    · have:=shut_bd l (cond_bd l ih) he
      omega
    · cases ho:assign l 6 wEq i with
      | bad k=>rw [ho] at he;cases he
      | ok y k =>
        obtain ⟨f,v⟩:=y
        rw [ho] at he
        have:=assign_bd l ho
        cases he;exact ⟨by omega,by simp only [Pd.size,Pd.sizeL];omega⟩
theorem choice_bd {cnd:Nat→R Pd.T} (hc:Bd Pd.size cnd) {step:Nat→R Po.T} (hs:Bd Po.tot step) {i:Nat} {x:Po.T} {j:Nat} (he:choice l cnd step i = .ok x j):i<j∧Po.tot x≤8*(j - i):=by
  unfold choice at he
  cases ho:cnd i with
  | bad k=>rw [ho] at he;cases he
  | ok c k =>
    rw [ho] at he
    have g1:=hc i c k ho
    dsimp only at he
    split at he
    · cases ha:step (k+1) with
      | bad q=>rw [ha] at he;cases he
      | ok a q =>
        rw [ha] at he
        have g2:=hs _ _ _ ha
        dsimp only at he
        split at he
        · cases hb:step (q+1) with
          | bad r=>rw [hb] at he;cases he
          | ok b r =>
            rw [hb] at he
            have g3:=hs _ _ _ hb
            cases he
            simp only [Po.tot,Po.totL]
            omega
        · cases he
    · cases he
theorem step_bd:∀ n:Nat,Bd Po.tot (step l n)
  | 0=>fun i x j he=>by rw [step] at he;cases he
  | n+1=>fun i x j he=>by
    have ih:=step_bd n
    have ihp:=cond_bd l (part_bd l l.length)
    rw [step] at he
    split at he
    · cases he;exact ⟨by omega,by simp only [Po.tot,Po.totL,Pd.size,Pd.sizeL];omega⟩
    split at he
    · cases he;exact ⟨by omega,by simp only [Po.tot,Po.totL,Pd.size,Pd.sizeL];omega⟩
    split at he
    · cases ho:cond l (part l l.length) (i+1) with
      | bad k=>rw [ho] at he;cases he
      | ok y k =>
        rw [ho] at he
        have:=ihp _ _ _ ho
        cases he;exact ⟨by omega,by simp only [Po.tot,Po.totL];omega⟩
    split at he
    · have:=choice_bd l ihp ih he
      omega
    split at he
    · have:=shut_bd l (rows_bd l ih) he
      omega
    · cases ho:assign l 5 wSet i with
      | bad k=>rw [ho] at he;cases he
      | ok y k =>
        obtain ⟨f,v⟩:=y
        rw [ho] at he
        have:=assign_bd l ho
        cases he;exact ⟨by omega,by simp only [Po.tot,Po.totL,none26,Pd.size,Pd.sizeL];omega⟩
end
theorem big27 (L:List B) {x:Po.T} (h:whole (la L) (rows (la L) (step (la L) (la L).length) 0) = .ok x 0):Po.tot x≤8*L.length:=by
  cases ho:rows (la L) (step (la L) (la L).length) 0 with
  | bad k=>rw [ho] at h;cases h
  | ok y k =>
    rw [ho] at h
    unfold whole at h
    dsimp only at h
    split at h
    · cases h
      have h1:=rows_bd _ (step_bd _ _) _ _ _ ho
      have h2:=rows_sim L (step_sim L _ _ (Nat.le_of_lt (Nat.lt_add_of_pos_right (k:=1) (by omega)))) 0 x k (Nat.zero_le _) ho
      omega
    · cases h
theorem big26 (L:List B) {x:Pd.T} (h:whole (la L) (cond (la L) (part (la L) (la L).length) 0) = .ok x 0):Pd.size x≤8*L.length:=by
  cases ho:cond (la L) (part (la L) (la L).length) 0 with
  | bad k=>rw [ho] at h;cases h
  | ok y k =>
    rw [ho] at h
    unfold whole at h
    dsimp only at h
    split at h
    · cases h
      have h1:=cond_bd _ (part_bd _ _) _ _ _ ho
      have h2:=cond_sim L (part_sim L _ _ (Nat.le_of_lt (Nat.lt_add_of_pos_right (k:=1) (by omega)))) 0 x k (Nat.zero_le _) ho
      omega
    · cases h
end Ps
end Go.Proofs.YtaojbkphcnailaaDoor
namespace Go.Proofs.YtaojbkphcnailaaDoor
open Go.Sx
set_option maxRecDepth 20000
set_option linter.unusedVariables false
namespace Ps
theorem res_la (tx:List UInt8) (L:List (Lx.B × List UInt8)):(Lx.res tx L).map Lx.b=la (L.map (·.1)):=Lx.res_b tx L
end Ps
end Go.Proofs.YtaojbkphcnailaaDoor
