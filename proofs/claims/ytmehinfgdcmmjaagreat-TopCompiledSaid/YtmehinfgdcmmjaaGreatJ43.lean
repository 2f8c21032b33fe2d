import Derived.Test.YtmehinfgdcmmjaaGreatJ42
import Derived.Test.YtmehinfgdcmmjaaGreatJ29
import Derived.Test.YtmehinfgdcmmjaaGreatJ41
import Derived.Test.YtmehinfgdcmmjaaGreatJ40
namespace Go.Proofs.YtmehinfgdcmmjaaGreat
open Go.Sx
set_option maxRecDepth 20000
set_option linter.unusedVariables false
namespace Ps
open Lx (B)
theorem sizeS (l:List Pd.T):Pd.sizeL l=(l.map Pd.size).sum:=by
 induction l with
 | nil=>rfl
 | cons x l ih=>rw [Pd.sizeL,ih];rfl
theorem totS (l:List Po.T):Po.totL l=(l.map Po.tot).sum:=by
 induction l with
 | nil=>rfl
 | cons x l ih=>rw [Po.totL,ih];rfl
section
variable (l:List B)
def Bd {α:Type} (sz:α→Nat) (one:Nat→R α):Prop:=∀ i x j,one i = .ok x j→i<j∧sz x≤8*(j - i)
theorem more_bd {α:Type} {sz:α→Nat} {one:Nat→R α} (h:Bd sz one) (b:List UInt8):∀ (n:Nat) (acc:List α) (i:Nat) (xs:List α) (j:Nat),more l b one n acc i = .ok xs j→i≤j∧acc.length≤xs.length∧(xs.map sz).sum+8*(xs.length - acc.length)≤(acc.map sz).sum+8*(j - i)
 | 0,acc,i,xs,j,he=>by rw [more] at he;cases he
 | n+1,acc,i,xs,j,he=>by
  rw [more] at he
  by_cases hw:is l i b=true
  ·rw [if_pos hw] at he
   cases ho:one (i+1) with
   | bad k=>rw [ho] at he;cases he
   | ok x k =>
    rw [ho] at he
    obtain ⟨h1,h2⟩:=h (i+1) x k ho
    obtain ⟨h3,h4,h5⟩:=more_bd h b n _ k xs j he
    rw [List.length_append,List.map_append,List.sum_append] at *
    simp only [List.length_cons,List.length_nil,List.map_cons,List.map_nil,List.sum_cons,List.sum_nil] at *
    omega
  ·rw [if_neg hw] at he
   cases he
   omega
theorem chain_bd {α:Type} {sz:α→Nat} {one:Nat→R α} (h:Bd sz one) (b:List UInt8) (i:Nat) (xs:List α) (j:Nat) (he:chain l b one i = .ok xs j):i<j∧1≤xs.length∧(xs.map sz).sum+8*(xs.length - 1)≤8*(j - i):=by
 unfold chain at he
 cases ho:one i with
 | bad k=>rw [ho] at he;cases he
 | ok x k =>
  rw [ho] at he
  obtain ⟨h1,h2⟩:=h i x k ho
  obtain ⟨h3,h4,h5⟩:=more_bd l h b _ _ k xs j he
  simp only [List.length_cons,List.length_nil,List.map_cons,List.map_nil,List.sum_cons,List.sum_nil] at *
  omega
theorem wrap_bd {α:Type} {sz:α→Nat} {one:Nat→R α} (h:Bd sz one) (b:List UInt8) (f:List α→α) (hf:∀ xs,sz (f xs)≤(xs.map sz).sum+8):Bd sz (fun i=>wrap f (chain l b one i)):=by
 intro i x j he
 dsimp only at he
 cases ho:chain l b one i with
 | bad k=>rw [ho] at he;cases he
 | ok xs k =>
  rw [ho] at he
  obtain ⟨h1,h2,h3⟩:=chain_bd l h b i xs k ho
  rcases xs with _ | ⟨x0,_ | ⟨x1,xs⟩⟩
  ·simp at h2
  ·cases he
   simp at h3
   exact ⟨h1,h3⟩
  ·cases he
   have:=hf (x0::x1::xs)
   simp only [List.length_cons] at h3
   exact ⟨h1,by omega⟩
theorem shut_bd {α:Type} {sz:α→Nat} {one:Nat→R α} (h:Bd sz one) {i:Nat} {x:α} {j:Nat} (he:shut l (one i) = .ok x j):i<j∧sz x≤8*(j - i):=by
 cases ho:one i with
 | bad k=>rw [ho] at he;cases he
 | ok y k =>
  rw [ho] at he
  obtain ⟨h1,h2⟩:=h i y k ho
  unfold shut at he
  dsimp only at he
  by_cases hw:is l k wShut=true
  ·rw [if_pos hw] at he
   cases he
   exact ⟨by omega,by omega⟩
  ·rw [if_neg hw] at he;cases he
theorem assign_bd {many:Nat} {sign:List UInt8} {i:Nat} {x:Int × Int} {j:Nat} (he:assign l many sign i = .ok x j):j=i+3:=by
 unfold assign at he
 cases hf:field l i many with
 | none=>rw [hf] at he;cases he
 | some f =>
  rw [hf] at he
  dsimp only at he
  split at he
  ·split at he
   ·cases he;rfl
   ·cases he
  ·cases he
theorem cond_bd {one:Nat→R Pd.T} (h:Bd Pd.size one):Bd Pd.size (cond l one) :=
 wrap_bd l (wrap_bd l h wAnd _ fun xs=>by rw [Pd.size,sizeS];omega) wOr _ fun xs=>by rw [Pd.size,sizeS];omega
theorem rows_bd {one:Nat→R Po.T} (h:Bd Po.tot one):Bd Po.tot (rows l one) :=
 wrap_bd l (wrap_bd l h wSemi _ fun xs=>by rw [Po.tot,totS];simp only [none26,Pd.size,Pd.sizeL];omega) wBar _ fun xs=>by rw [Po.tot,totS];simp only [none26,Pd.size,Pd.sizeL];omega
theorem part_bd:∀ n:Nat,Bd Pd.size (part l n)
 | 0=>fun i x j he=>by rw [part] at he;cases he
 | n+1=>fun i x j he=>by
  have ih:=part_bd n
  rw [part] at he
  split at he
  ·cases he;exact ⟨by omega,by simp only [Pd.size,Pd.sizeL];omega⟩
  split at he
  ·cases he;exact ⟨by omega,by simp only [Pd.size,Pd.sizeL];omega⟩
  split at he
  ·cases ho:part l n (i+1) with
   | bad k=>rw [ho] at he;cases he
   | ok y k =>
    rw [ho] at he
    have:=ih _ _ _ ho
    cases he;exact ⟨by omega,by simp only [Pd.size,Pd.sizeL];omega⟩
  split at he
  ·have:=shut_bd l (cond_bd l ih) he
   omega
  ·cases ho:assign l 6 wEq i with
   | bad k=>rw [ho] at he;cases he
   | ok y k =>
    obtain ⟨f,v⟩:=y
    rw [ho] at he
    have:=assign_bd l ho
    cases he;exact ⟨by omega,by simp only [Pd.size,Pd.sizeL];omega⟩
theorem choice_bd {cnd:Nat→R Pd.T} (hc:Bd Pd.size cnd) {step:Nat→R Po.T} (hs:Bd Po.tot step) {i:Nat} {x:Po.T} {j:Nat} (he:choice l cnd step i = .ok x j):i<j∧Po.tot x≤8*(j - i):=by
 unfold choice at he
 cases ho:cnd i with
 | bad k=>rw [ho] at he;cases he
 | ok c k =>
  rw [ho] at he
  have g1:=hc i c k ho
  dsimp only at he
  split at he
  ·cases ha:step (k+1) with
   | bad q=>rw [ha] at he;cases he
   | ok a q =>
    rw [ha] at he
    have g2:=hs _ _ _ ha
    dsimp only at he
    split at he
    ·cases hb:step (q+1) with
     | bad r=>rw [hb] at he;cases he
     | ok b r =>
      rw [hb] at he
      have g3:=hs _ _ _ hb
      cases he
      simp only [Po.tot,Po.totL]
      omega
    ·cases he
  ·cases he
theorem step_bd:∀ n:Nat,Bd Po.tot (step l n)
 | 0=>fun i x j he=>by rw [step] at he;cases he
 | n+1=>fun i x j he=>by
  have ih:=step_bd n
  have ihp:=cond_bd l (part_bd l l.length)
  rw [step] at he
  split at he
  ·cases he;exact ⟨by omega,by simp only [Po.tot,Po.totL,Pd.size,Pd.sizeL];omega⟩
  split at he
  ·cases he;exact ⟨by omega,by simp only [Po.tot,Po.totL,Pd.size,Pd.sizeL];omega⟩
  split at he
  ·cases ho:cond l (part l l.length) (i+1) with
   | bad k=>rw [ho] at he;cases he
   | ok y k =>
    rw [ho] at he
    have:=ihp _ _ _ ho
    cases he;exact ⟨by omega,by simp only [Po.tot,Po.totL];omega⟩
  split at he
  ·have:=choice_bd l ihp ih he
   omega
  split at he
  ·have:=shut_bd l (rows_bd l ih) he
   omega
  ·cases ho:assign l 5 wSet i with
   | bad k=>rw [ho] at he;cases he
   | ok y k =>
    obtain ⟨f,v⟩:=y
    rw [ho] at he
    have:=assign_bd l ho
    cases he;exact ⟨by omega,by simp only [Po.tot,Po.totL,none26,Pd.size,Pd.sizeL];omega⟩
end
theorem big27 (L:List B) {x:Po.T} (h:whole (la L) (rows (la L) (step (la L) (la L).length) 0) = .ok x 0):Po.tot x≤8*L.length:=by
 cases ho:rows (la L) (step (la L) (la L).length) 0 with
 | bad k=>rw [ho] at h;cases h
 | ok y k =>
  rw [ho] at h
  unfold whole at h
  dsimp only at h
  split at h
  ·cases h
   have h1:=rows_bd _ (step_bd _ _) _ _ _ ho
   have h2:=rows_sim L (step_sim L _ _ (Nat.le_of_lt (Nat.lt_add_of_pos_right (k:=1) (by omega)))) 0 x k (Nat.zero_le _) ho
   omega
  ·cases h
end Ps
namespace Ps
theorem res_la (tx:List UInt8) (L:List (Lx.B × List UInt8)):(Lx.res tx L).map Lx.b=la (L.map (·.1)):=Lx.res_b tx L
end Ps
set_option linter.unusedSimpArgs false
set_option maxHeartbeats 4000000
namespace Ps
theorem sign_words:∀ n:Nat,n<256→Lx.isL n.toUInt8=false→[n.toUInt8] ∉ words:=by decide +kernel
theorem nextB_sign {t:List UInt8} {b:Lx.B} {n:Nat} (h:Lx.nextB t=some (b,n)) (hk:b.k=3):b.s ∉ words:=by
 cases t with
 | nil=>cases h
 | cons c r =>
  rw [Lx.nextB_eq] at h
  cases h1:Lx.isL c with
  | true=>rw [h1,if_pos rfl] at h;cases h;cases hk
  | false =>
   rw [h1,if_neg (by decide)] at h
   cases h2:Lx.isD c with
   | true =>
    rw [h2,if_pos rfl] at h
    split at h
    ·cases h
    ·cases h;cases hk
   | false =>
    rw [h2,if_neg (by decide)] at h
    split at h
    ·cases h;show ([58,61]:List UInt8) ∉ words;decide
    split at h
    ·cases h
     have:=sign_words c.toNat c.toNat_lt
     have e:c.toNat.toUInt8=c:=UInt8.ofNat_toNat
     rw [e] at this
     exact this h1
    ·cases h
theorem run_apart (tx:List UInt8):∀ (f i:Nat) (out:List Lx.T),(∀ x∈out,x.k=3→x.s ∉ words)→∀ l,Lx.run tx f i out = .ok l→∀ x∈l,x.k=3→x.s ∉ words
 | 0,i,out,_,l,h=>by rw [Lx.run] at h;cases h
 | f+1,i,out,ho,l,h=>by
  rw [Lx.run] at h
  split at h
  ·cases h
   intro x hx
   rcases List.mem_append.1 hx with hx | hx
   ·exact ho x hx
   ·rw [List.mem_singleton.1 hx];intro h;cases h
  ·cases hn:Lx.nextB (tx.drop (Lx.sk tx i)) with
   | none=>rw [hn] at h;cases h
   | some bn =>
    obtain ⟨b,n⟩:=bn
    rw [hn] at h
    dsimp only at h
    split at h
    ·cases h
    ·refine run_apart tx f _ _ (fun x hx=>?_) l h
     rcases List.mem_append.1 hx with hx | hx
     ·exact ho x hx
     ·rw [List.mem_singleton.1 hx]
      exact nextB_sign hn
theorem apart_all {tx:List UInt8} {l:List Lx.T} (h:Lx.all tx = .ok l):Apart l:=fun i x hx hk =>
 run_apart tx _ 0 [] (fun x hx=>by cases hx) l h x (List.mem_of_getElem? hx) hk
theorem good_all {tx:List UInt8} {l:List Lx.T} (h:Lx.all tx = .ok l):Good l∧0<l.length:=by
 rcases Lx.all_cases tx with ⟨L,hL,hl,ha⟩ | ⟨_,a,hb⟩ | ⟨_,a,hb⟩
 ·rw [ha] at h
  cases h
  exact ⟨good_res hl,by simp [Lx.res]⟩
 ·rw [hb] at h;cases h
 ·rw [hb] at h;cases h
theorem bad_all {tx:List UInt8} {a e:Int} (h:Lx.all tx = .bad a e):e≠0:=by
 rcases Lx.all_cases tx with ⟨L,hL,hl,ha⟩ | ⟨_,a,hb⟩ | ⟨_,a,hb⟩
 ·rw [ha] at h;cases h
 ·rw [hb] at h;cases h;decide
 ·rw [hb] at h;cases h;decide
theorem tot_all (tx:List UInt8):Po.tot (out27 tx).1≤4000:=by
 unfold out27
 rcases Lx.all_cases tx with ⟨L,hL,hl,ha⟩ | ⟨_,a,hb⟩ | ⟨_,a,hb⟩
 ·rw [ha,out,res_la]
  have hlm:(L.map (·.1)).length=L.length:=List.length_map ..
  cases hw:whole (la (L.map (·.1))) (q27 (la (L.map (·.1)))) with
  | bad j=>show Po.tot zero27≤4000;decide
  | ok x n =>
   have hn:n=0:=by
    unfold whole at hw
    split at hw
    ·split at hw
     ·cases hw;rfl
     ·cases hw
    ·cases hw
   subst hn
   have:=big27 _ hw
   show Po.tot x≤4000
   omega
 iterate 2
  ·rw [hb];show Po.tot zero27≤4000;decide
end Ps
theorem Ps.out_at {α:Type} {z:α} {l:List Lx.T} {x:α} {j:Nat} {o:α × Int × Int} (ho:o=(match Ps.whole (l.map Lx.b) (.ok x j) with | .ok x _=>(x,0,0) | .bad j=>(z,(l[j]?.getD ⟨4,0,[],0⟩).at_,10))) (hj:j<l.length):(l[j].k=4→o=(x,0,0))∧(l[j].k≠4→o=(z,l[j].at_,10)):=by
 have hw:Ps.whole (l.map Lx.b) (.ok x j)=if (Ps.tk (l.map Lx.b) j).k=4 then .ok x 0 else .bad j:=rfl
 rw [hw,Ps.tk_b (List.getElem?_eq_getElem hj)] at ho
 constructor
 ·intro h
  rw [if_pos (show (Lx.b l[j]).k=4 from h)] at ho
  exact ho
 ·intro h
  rw [if_neg (show ¬(Lx.b l[j]).k=4 from h)] at ho
  dsimp only at ho
  rw [List.getElem?_eq_getElem hj] at ho
  exact ho
theorem jL (tx:List UInt8) (hs:tx.length≤4000) (F:Heap) :
  NCall Tryz.prog 4 [.str tx] [hpB F] fun r m=>∃ G pu u,F.le G∧Po.At G (Ps.out27 tx).1 pu u∧r = .tup [.agg (Po.cs (Ps.out27 tx).1 pu u),.int .i64 (Ps.out27 tx).2.1,.int .i64 (Ps.out27 tx).2.2]∧m=[hpB G]:=by
 refine NCall.fits (K:=fun r m=>∃ G pu u,F.le G∧Po.At G (Ps.out27 tx).1 pu u∧r.den=(AV.tup [.agg (Po.cs (Ps.out27 tx).1 pu u),.int .i64 (Ps.out27 tx).2.1,.int .i64 (Ps.out27 tx).2.2]).den∧MemFits m [hpB G]) ?_ fun r m' ⟨G,pu,u,h1,h2,h3,h4⟩=>⟨_,_,h3.symm,h4,G,pu,u,h1,h2,rfl,rfl⟩
 have cl:=oi F tx hs
 have ho:Ps.out27 tx=Ps.out Ps.zero27 Ps.q27 (Lx.all tx):=rfl
 generalize Ps.out27 tx=o at *
 cases hq:Lx.all tx with
 | bad a e =>
  rw [hq] at ho
  have ho:o=(Ps.zero27,a,e):=ho
  subst ho
  have he:=Ps.bad_all hq
  have cl:=cl.mono fun r m h=>show m=[hpB F]∧r = .tup [.hs (.slice none 0 0) 0,.int .i64 a,.int .i64 e] from by
   rcases h with ⟨l,F',v,h1,_⟩ | ⟨a',e',h1,h2,h3⟩
   ·rw [hq] at h1;cases h1
   ·rw [hq] at h1;cases h1;exact ⟨h2,h3⟩
  refine aA Tryz.func4 rfl (by decide) ?_
  repeat' first|((try intro K hK);(with_reducible refine gC ?_);(refine cN [0] cl ?_;rintro _ _ ⟨rfl,rfl⟩;refine cR ?_))|((first|intro A B hA hB|intro K hK|skip);first|((with_reducible refine NIf.yes ?s ?_);(case s=>simp ;done);conv=>whnf)|((with_reducible refine NIf.no ?s ?_);(case s=>simp ;done);conv=>whnf))|(refine sxZ ?_;(try clear hK K);try clear hA hB A B)|refine sxW ?_ ?_<;>intro _|(intro K hK _;conv=>whnf)
  all_goals exact ⟨F,.slice none 0 0,.slice none 0 0,F.le_refl,⟨Ps.nil26 _,Ps.nil27 _⟩,rfl,MemFits.pre 1 rfl⟩
 | ok l =>
  rw [hq] at ho
  obtain ⟨hg,h0⟩:=Ps.good_all hq
  have ha:=Ps.apart_all hq
  have cl:=cl.mono fun r m h=>show ∃ F' v,F.le F'∧Ps.Toks F' v l∧SlOk v l.length∧m=[hpB F']∧r = .tup [.hs v l.length,.int .i64 0,.int .i64 0] from by
   rcases h with ⟨l',F',v,h1,h2,h3,h4,h5⟩ | ⟨a',e',h1,h2,h3⟩
   ·rw [hq] at h1;cases h1;exact ⟨F',v,h2,h5,h5.ok,h3,h4⟩
   ·rw [hq] at h1;cases h1
  have cr:=fun v=>iY v l hg (Ps.row (l.map Lx.b) (Ps.step (l.map Lx.b) (l.map Lx.b).length)) 0 h0 fun i h1 h2=>j7 v l hg (Ps.step (l.map Lx.b) (l.map Lx.b).length) i h2 fun i' h3 h4=>iW v l hg ha (l.map Lx.b).length i' (by rw [List.length_map];omega) h4
  have e:Ps.wrap (fun xs=>Po.T.mk 4 Ps.none26 0 0 xs) (Ps.chain (l.map Lx.b) Ps.wBar (Ps.row (l.map Lx.b) (Ps.step (l.map Lx.b) (l.map Lx.b).length)) 0)=Ps.q27 (l.map Lx.b):=rfl
  rw [e] at cr
  unfold Ps.out at ho
  dsimp only at ho
  have hn:=hg.few
  unfold Ps.D27 at cr
  generalize Ps.q27 (l.map Lx.b)=q at *
  have gets:=fun G v (h:Ps.Toks G v l) j (hj:j<l.length)=>h.get (List.getElem?_eq_getElem hj)
  rcases q with ⟨x,j⟩ | j
  ·by_cases hj:j<l.length
   ·have cr:=fun v F' (hv:Ps.Toks F' v l)=>(cr v F' hv).mono fun r m h=>show ∃ pu u G,F'.le G∧Po.At G x pu u∧G.c ((addrOf v).add (j*4)) (.int .i64 l[j].k)∧G.c ((addrOf v).add (j*4+3)) (.int .i64 l[j].at_)∧r = .tup [.agg (Po.cs x pu u),.int .i64 j,.bool true]∧m=[hpB G] from by
     obtain ⟨pu,u,G,h1,h2,h3,h4,h5,h6⟩:=Ps.Out27.ok rfl h
     have:=gets G v (Ps.Toks.mono h1 hv) j hj
     exact ⟨pu,u,G,h1,h2,this.1,this.2.2.2,h5,h6⟩
    obtain ⟨ho1,ho2⟩:=Ps.out_at ho hj
    generalize l[j]=y at *
    refine aA Tryz.func4 rfl (by decide) ?_
    by_cases hk:y.k=4
    ·have ho1:=ho1 hk
     subst ho1
     repeat' first|((try intro K hK);(with_reducible refine gC ?_);first|(refine cN [0] cl ?_;rintro _ _ ⟨F',v,h1,h2,hok,rfl,rfl⟩;refine cR ?_)|(refine cN [0] (cr v F' h2) ?_;rintro _ _ ⟨pu,u,G,g1,g2,g3,g4,rfl,rfl⟩;refine cR ?_))|((first|intro A B hA hB|intro K hK|skip);first|((with_reducible refine NIf.yes ?s ?_);(case s=>simp ;done);conv=>whnf)|((with_reducible refine NIf.no ?s ?_);(case s=>simp ;done);conv=>whnf))|(refine sxO ?_;(try clear hK K);try clear hA hB A B)|refine sxW ?_ ?_<;>intro _|refine sxV ?_ ?_|(intro K hK _;conv=>whnf)
     all_goals exact ⟨G,pu,u,h1.trans g1,g2,rfl,MemFits.pre 1 rfl⟩
    ·have ho2:=ho2 hk
     subst ho2
     repeat' first|((try intro K hK);(with_reducible refine gC ?_);first|(refine cN [0] cl ?_;rintro _ _ ⟨F',v,h1,h2,hok,rfl,rfl⟩;refine cR ?_)|(refine cN [0] (cr v F' h2) ?_;rintro _ _ ⟨pu,u,G,g1,g2,g3,g4,rfl,rfl⟩;refine cR ?_))|((first|intro A B hA hB|intro K hK|skip);first|((with_reducible refine NIf.yes ?s ?_);(case s=>simp ;done);conv=>whnf)|((with_reducible refine NIf.no ?s ?_);(case s=>simp ;done);conv=>whnf))|(refine sxO ?_;(try clear hK K);try clear hA hB A B)|refine sxW ?_ ?_<;>intro _|refine sxV ?_ ?_|(intro K hK _;conv=>whnf)
     all_goals exact ⟨G,.slice none 0 0,.slice none 0 0,h1.trans g1,⟨Ps.nil26 _,Ps.nil27 _⟩,rfl,MemFits.pre 1 rfl⟩
   ·have cr:=fun v F' (hv:Ps.Toks F' v l)=>(cr v F' hv).mono fun r m h=>Ps.Out27.ok rfl h
    refine aA Tryz.func4 rfl (by decide) ?_
    (repeat' (first|(((with_reducible refine gC ?_);(first|(refine cM [0] (cl) rfl rfl ?_;rintro _ _ ⟨F',v,h1,h2,hok,rfl,rfl⟩;refine ⟨rfl,_,rfl,?_⟩)|(refine cM [0] (cr v F' h2) rfl rfl ?_;rintro _ _ ⟨pu,u,G,g1,g2,g3,g4,rfl,rfl⟩;refine ⟨rfl,_,rfl,?_⟩)))<;>(conv=>whnf))|(refine sxA ?_;(first|clear hK K|skip);(first|clear hA hB A B|skip))|(refine bQ ?_;intro K hK;conv=>whnf)|(refine bF ?_;intro A B hA hB;(conv=>whnf);((with_reducible refine NIf.dec (fun _=>?_) (fun _=>?_))<;>(conv=>whnf)))|(refine bF ?_;intro A B hA hB;conv=>whnf)|((with_reducible first|refine NIf.dec (fun _=>?_) (fun _=>?_)|refine NIf.both (fun _=>?_) (fun _=>?_))<;>(conv=>whnf))|((intro _;skip)<;>(conv=>whnf))))
    all_goals exact (hj g4).elim
  ·have ho:o=(Ps.zero27,(l[j]?.getD ⟨4,0,[],0⟩).at_,10):=ho
   by_cases hj:j<l.length
   ·have cr:=fun v F' (hv:Ps.Toks F' v l)=>(cr v F' hv).mono fun r m h=>show ∃ y pu u G,F'.le G∧Po.At G y pu u∧G.c ((addrOf v).add (j*4)) (.int .i64 l[j].k)∧G.c ((addrOf v).add (j*4+3)) (.int .i64 l[j].at_)∧r = .tup [.agg (Po.cs y pu u),.int .i64 j,.bool false]∧m=[hpB G] from by
     obtain ⟨y,pu,u,G,h1,h2,h3,h4,h5,h6⟩:=Ps.Out27.no rfl h
     have:=gets G v (Ps.Toks.mono h1 hv) j hj
     exact ⟨y,pu,u,G,h1,h2,this.1,this.2.2.2,h5,h6⟩
    rw [List.getElem?_eq_getElem hj] at ho
    dsimp only [Option.getD_some] at ho
    generalize l[j]=y at *
    subst ho
    refine aA Tryz.func4 rfl (by decide) ?_
    repeat' first|(intro K hK;(with_reducible refine gC ?_);first|(refine cN [0] cl ?_;rintro _ _ ⟨F',v,h1,h2,hok,rfl,rfl⟩;refine cR ?_)|(refine cN [0] (cr v F' h2) ?_;rintro _ _ ⟨y',pu,u,G,g1,g2,g3,g4,rfl,rfl⟩;refine cR ?_))|(refine sxO ?_;try clear hK K)|refine sxW ?_ ?_<;>intro _|refine sxV ?_ ?_|(intro K hK _;conv=>whnf)
    all_goals exact ⟨G,.slice none 0 0,.slice none 0 0,h1.trans g1,⟨Ps.nil26 _,Ps.nil27 _⟩,rfl,MemFits.pre 1 rfl⟩
   ·have cr:=fun v F' (hv:Ps.Toks F' v l)=>(cr v F' hv).mono fun r m h=>Ps.Out27.no rfl h
    refine aA Tryz.func4 rfl (by decide) ?_
    (repeat' (first|(((with_reducible refine gC ?_);(first|(refine cM [0] (cl) rfl rfl ?_;rintro _ _ ⟨F',v,h1,h2,hok,rfl,rfl⟩;refine ⟨rfl,_,rfl,?_⟩)|(refine cM [0] (cr v F' h2) rfl rfl ?_;rintro _ _ ⟨y,pu,u,G,g1,g2,g3,g4,rfl,rfl⟩;refine ⟨rfl,_,rfl,?_⟩)))<;>(conv=>whnf))|(refine sxA ?_;(first|clear hK K|skip);(first|clear hA hB A B|skip))|(refine bQ ?_;intro K hK;conv=>whnf)|(refine bF ?_;intro A B hA hB;(conv=>whnf);((with_reducible refine NIf.dec (fun _=>?_) (fun _=>?_))<;>(conv=>whnf)))|(refine bF ?_;intro A B hA hB;conv=>whnf)|((with_reducible first|refine NIf.dec (fun _=>?_) (fun _=>?_)|refine NIf.both (fun _=>?_) (fun _=>?_))<;>(conv=>whnf))|((intro _;skip)<;>(conv=>whnf))))
    all_goals exact (hj g4).elim
theorem mE (F:Heap) (b:Nat) :
  NCall Tryz.prog 8 [.str Cm.t1,.agg [.int .i64 1,.raw (.slice none 0 0),.sl 1 (.slice (some ⟨b,0,none⟩) 1 1) 1],.int .i64 9] [hpB F,⟨⟨b,0,none⟩,[.int .i64 0,.int .i64 2],.row (.slice (some ⟨b,0,none⟩) 1 1) 65 2 1⟩]
   fun r m=>∃ G v A cap,F.le G∧Tp.At G Cm.exTop (.slice none 0 0) (.slice (some ⟨b,0,none⟩) 1 1)∧(SlOk v 1∧SlOk (.slice A 2 cap) 2)∧G.c ((addrOf v).add 0) (.slice A 2 cap)∧r = .tup [.hs v 1,.int .i64 0,.int .i64 0]∧m=[hpB G,hpB noHeap]:=by
 have hok:SlOk (.slice (some ⟨b,0,none⟩) 1 1) 1:=⟨_,_,rfl,Nat.le_refl _,fun h=>by cases h⟩
 generalize hw:Value.slice (some ⟨b,0,none⟩) 1 1=w at *
 have a3:(⟨b,0,none⟩:Addr)=addrOf w:=by rw [← hw];rfl
 rw [a3]
 have e8:denL ([.int .i64 0,.int .i64 2]:List AV)=[(⟨0,2⟩:Tp.Hs)].flatMap Tp.hsV:=rfl
 have r8:=aJ (F:=F) (sz:=2) (enc:=Tp.hsV) hok e8 (fun x _=>rfl)
 have hat:Tp.At (addF F (addrOf w) (denL ([.int .i64 0,.int .i64 2]:List AV))) Cm.exTop (.slice none 0 0) w:=⟨aH.nil,r8⟩
 have c:=eN _ Cm.t1 (by decide) Cm.exTop (.slice none 0 0) w true hat (by decide) (by decide) (fun G hG=>by
  have h:=gD G Cm.exTop (.slice none 0 0) w (Tp.At.mono hG hat) (by decide) (by decide)
  rwa [Cm.ex_right] at h) (fun _=>by decide) 9 (fun _=>by rw [Cm.t1_out];exact Cm.fit_of (by decide +kernel) Cm.x1_few) (by rw [Cm.t1_out];decide +kernel)
 rw [Cm.t1_out] at c
 obtain ⟨x1,x2⟩:=Cm.x1_comp
 generalize Cm.comp true Cm.exTop (Cm.x1,0,0) 9=o at *
 obtain ⟨L,a,e⟩:=o
 dsimp only at x1 x2 c
 injection x1 with y1 y2
 subst y1
 subst y2
 obtain ⟨T,rfl⟩:∃ T,L=[T]:=List.length_eq_one_iff.1 (by rw [← List.length_map (f:=List.length),x2];rfl)
 have hT:T.length=2:=by simpa using x2
 refine (NCall.pre (args:=[.str Cm.t1,.agg [.int .i64 1,.raw (.slice none 0 0),.sl 1 w 1],.int .i64 9]) c rfl (MemFits.freeze (m:=[]))).fits fun r m' hr=>?_
 obtain ⟨G,v,h1,h2,rfl,rfl⟩:=hr
 obtain ⟨A,cap,h3,h4⟩:=h2.get (i:=0) (T:=T) rfl
 have h5:=h3.ok
 rw [hT] at h4 h5
 exact ⟨_,_,rfl,(MemFits.noHeap _).trans (MemFits.pick [1,0] (by decide) rfl),G,v,A,cap,addF.old.trans h1,Tp.At.mono h1 hat,⟨h2.ok,h5⟩,h4,rfl,rfl⟩
theorem mD (F:Heap) (w:Value) (hat:Tp.At F Cm.exTop (.slice none 0 0) w) :
  NCall Tryz.prog 8 [.str Cm.t2,.agg [.int .i64 1,.raw (.slice none 0 0),.hs w 1],.int .i64 9] [hpB F] fun r m=>∃ G v,F.le G∧SlOk v 0∧r = .tup [.hs v 0,.int .i64 8,.int .i64 10]∧m=[hpB G]:=by
 have c:=eN F Cm.t2 (by decide) Cm.exTop (.slice none 0 0) w true hat (by decide) (by decide) (fun G hG=>by
  have h:=gD G Cm.exTop (.slice none 0 0) w (Tp.At.mono hG hat) (by decide) (by decide)
  rwa [Cm.ex_right] at h) (fun _=>by decide) 9 (fun h=>by rw [Cm.t2_out] at h;exact absurd h (by decide)) (by rw [Cm.t2_out];decide +kernel)
 rw [Cm.t2_out,Cm.x2_comp] at c
 exact (NCall.pre (args:=[.str Cm.t2,.agg [.int .i64 1,.raw (.slice none 0 0),.hs w 1],.int .i64 9]) c rfl (MemFits.eq rfl)).mono (K':=fun r m=>∃ G v,F.le G∧SlOk v 0∧r = .tup [.hs v 0,.int .i64 8,.int .i64 10]∧m=[hpB G]) fun r m ⟨G,v,h1,h2,h3,h4⟩=>⟨G,v,h1,h2.ok,h3,h4⟩
theorem mC (F:Heap):NCall Tryz.prog 7 [] [hpB F] fun r m=>r = .bool true∧m=[hpB F]:=by
 refine NCall.fits (K:=fun r m=>r = .bool true∧∃ F',F.le F'∧MemFits m [hpB F']) ?_ fun r m' ⟨h1,F',h2,h3⟩=>⟨r,_,rfl,h3.trans (MemFits.less h2 []),h1,rfl⟩
 have c1:=fun b=>mE F b
 have c2:=fun G w h (x y:Value) (hl:G.c ((addrOf x).add 0) y)=>(mD G w h).mono (K':=fun r m=>∃ G2 v,G.le G2∧SlOk v 0∧G2.c ((addrOf x).add 0) y∧r = .tup [.hs v 0,.int .i64 8,.int .i64 10]∧m=[hpB G2]) fun r m ⟨G2,v,h1,h2,h3,h4⟩=>⟨G2,v,h1,h2,h1.c _ _ hl,h3,h4⟩
 unfold Cm.t1 at c1
 unfold Cm.t2 at c2
 refine aA Tryz.func7 rfl (by decide) ?_
 repeat' first|((try intro K hK);(with_reducible refine gC ?_);first|(refine cN [0,1] (c1 _) ?_;rintro _ _ ⟨G,v,A,cap,h1,hat,⟨o1,o2⟩,l1,rfl,rfl⟩;refine cR ?_)|(refine cN [0] (c2 G _ hat _ _ l1) ?_;rintro _ _ ⟨G2,v2,h2,o3,l2,rfl,rfl⟩;refine cR ?_))|((first|intro A B hA hB|intro K hK|skip);first|((with_reducible refine NIf.yes ?s ?_);(case s=>simp ;done);conv=>whnf)|((with_reducible refine NIf.no ?s ?_);(case s=>simp ;done);conv=>whnf))|(refine sxZ ?_;(try clear hK K);try clear hA hB A B)|refine sxW ?_ ?_<;>intro _|(intro K hK _;conv=>whnf)
 all_goals exact ⟨congrArg AV.bool (decide_eq_true rfl),G2,h1.trans h2,MemFits.pre 1 rfl⟩
theorem fq (tx:List UInt8) (hs:4000<tx.length) (hs2:tx.length≤9223372036854775807) (F:Heap) :
  NCall Tryz.prog 4 [.str tx] [hpB F] fun r m=>r = .tup [.agg (Po.cs Ps.zero27 (.slice none 0 0) (.slice none 0 0)),.int .i64 0,.int .i64 3]∧m=[hpB F]:=by
 refine NCall.fits (K:=fun r m=>r.den=(AV.tup [.agg (Po.cs Ps.zero27 (.slice none 0 0) (.slice none 0 0)),.int .i64 0,.int .i64 3]).den∧MemFits m [hpB F]) ?_ fun r m' ⟨h1,h2⟩=>⟨_,_,h1.symm,h2,rfl,rfl⟩
 have cl:NCall Tryz.prog 14 [.str tx] [hpB F] fun r m=>r = .tup [.hs (.slice none 0 0) 0,.int .i64 0,.int .i64 3]∧m=[hpB F]:=by
  refine NCall.fits (K:=fun r m=>r.den=(AV.tup [.hs (.slice none 0 0) 0,.int .i64 0,.int .i64 3]).den∧MemFits m [hpB F]) ?_ fun r m' ⟨h1,h2⟩=>⟨_,_,h1.symm,h2,rfl,rfl⟩
  refine aA Tryz.func14 rfl (by decide) ?_
  repeat' first|((first|intro A B hA hB|intro K hK|skip);first|((with_reducible refine NIf.yes ?s ?_);(case s=>simp ;done);conv=>whnf)|((with_reducible refine NIf.no ?s ?_);(case s=>simp ;done);conv=>whnf))|(refine sxZ ?_;(try clear hK K);try clear hA hB A B)|refine sxW ?_ ?_<;>intro _|(intro K hK _;conv=>whnf)
  all_goals exact ⟨rfl,MemFits.pre 1 rfl⟩
 refine aA Tryz.func4 rfl (by decide) ?_
 repeat' first|((try intro K hK);(with_reducible refine gC ?_);refine cS [0] cl ?_)|((first|intro A B hA hB|intro K hK|skip);first|((with_reducible refine NIf.yes ?s ?_);(case s=>simp ;done);conv=>whnf)|((with_reducible refine NIf.no ?s ?_);(case s=>simp ;done);conv=>whnf))|(refine sxZ ?_;(try clear hK K);try clear hA hB A B)|refine sxW ?_ ?_<;>intro _|(intro K hK _;conv=>whnf)
 all_goals exact ⟨rfl,MemFits.pre 1 rfl⟩
end Go.Proofs.YtmehinfgdcmmjaaGreat
