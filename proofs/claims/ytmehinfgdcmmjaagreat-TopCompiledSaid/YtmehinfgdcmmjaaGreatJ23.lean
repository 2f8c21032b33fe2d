import Derived.Test.YtmehinfgdcmmjaaGreatJ1
import Derived.Test.YtmehinfgdcmmjaaGreatJ22
import Derived.Test.YtmehinfgdcmmjaaGreatProg
import Derived.Test.YtmehinfgdcmmjaaGreatJ5
namespace Go.Proofs.YtmehinfgdcmmjaaGreat
open Go.Sx
set_option maxRecDepth 20000
set_option linter.unusedVariables false
namespace Ps
inductive R (α:Type) where
  | ok (x:α) (n:Nat)
  | bad (n:Nat)
def tk (l:List Lx.B) (i:Nat):Lx.B:=l[i]?.getD ⟨4,0,[]⟩
def is (l:List Lx.B) (i:Nat) (s:List UInt8):Bool:=(decide ((tk l i).k=1)||decide ((tk l i).k=3))&&decide ((tk l i).s=s)
def more {α:Type} (l:List Lx.B) (b:List UInt8) (one:Nat→R α):Nat→List α→Nat→R (List α)
  | 0,_,i=>.bad i
  | n+1,acc,i=>if is l i b=true then match one (i+1) with
      | .ok x j=>more l b one n (acc++[x]) j
      | .bad j=>.bad j
    else .ok acc i
def chain {α:Type} (l:List Lx.B) (b:List UInt8) (one:Nat→R α) (i:Nat):R (List α):=match one i with
  | .ok x j=>more l b one (l.length+1 - j) [x] j
  | .bad j=>.bad j
def wrap {α:Type} (f:List α→α):R (List α)→R α
  | .ok [x] j=>.ok x j
  | .ok xs j=>.ok (f xs) j
  | .bad j=>.bad j
def wTrue:List UInt8:=[116,114,117,101]
def wFalse:List UInt8:=[102,97,108,115,101]
def wNot:List UInt8:=[110,111,116]
def wOpen:List UInt8:=[40]
def wShut:List UInt8:=[41]
def wAnd:List UInt8:=[97,110,100]
def wOr:List UInt8:=[111,114]
def wEq:List UInt8:=[61]
def wSet:List UInt8:=[58,61]
def wDrop:List UInt8:=[100,114,111,112]
def wId:List UInt8:=[105,100]
def wWhen:List UInt8:=[119,104,101,110]
def wIf:List UInt8:=[105,102]
def wThen:List UInt8:=[116,104,101,110]
def wElse:List UInt8:=[101,108,115,101]
def wSemi:List UInt8:=[59]
def wBar:List UInt8:=[124]
def words:List (List UInt8):=[[115,114,99],[100,115,116],[107,105,110,100],[116,97,103],[112,111,114,116],[115,119,105,116,99,104]]
def field (l:List Lx.B) (i many:Nat):Option Nat:=if (tk l i).k=1 then (words.take many).findIdx? (fun w=>decide (w=(tk l i).s)) else none
def assign (l:List Lx.B) (many:Nat) (sign:List UInt8) (i:Nat):R (Int × Int):=match field l i many with
  | none=>.bad i
  | some f=>if is l (i+1) sign=true then (if (tk l (i+2)).k=2 then .ok ((f:Int),(tk l (i+2)).n) (i+3) else .bad (i+2)) else .bad (i+1)
def group (l:List Lx.B) (part:Nat→R Pd.T) (i:Nat):R Pd.T:=wrap (fun xs=>.mk 5 0 0 xs) (chain l wAnd part i)
def cond (l:List Lx.B) (part:Nat→R Pd.T) (i:Nat):R Pd.T:=wrap (fun xs=>.mk 6 0 0 xs) (chain l wOr (group l part) i)
def shut {α:Type} (l:List Lx.B):R α→R α
  | .ok x j=>if is l j wShut=true then .ok x (j+1) else .bad j
  | .bad j=>.bad j
def part (l:List Lx.B):Nat→Nat→R Pd.T
  | 0,i=>.bad i
  | n+1,i =>
    if is l i wTrue=true then .ok (.mk 1 0 0 []) (i+1)
    else if is l i wFalse=true then .ok (.mk 2 0 0 []) (i+1)
    else if is l i wNot=true then match part l n (i+1) with
      | .ok x j=>.ok (.mk 4 0 0 [x]) j
      | .bad j=>.bad j
    else if is l i wOpen=true then shut l (cond l (part l n) (i+1))
    else match assign l 6 wEq i with
      | .ok (f,v) j=>.ok (.mk 3 f v []) j
      | .bad j=>.bad j
def none26:Pd.T:=.mk 0 0 0 []
def row (l:List Lx.B) (step:Nat→R Po.T) (i:Nat):R Po.T:=wrap (fun xs=>.mk 3 none26 0 0 xs) (chain l wSemi step i)
def rows (l:List Lx.B) (step:Nat→R Po.T) (i:Nat):R Po.T:=wrap (fun xs=>.mk 4 none26 0 0 xs) (chain l wBar (row l step) i)
def choice (l:List Lx.B) (cnd:Nat→R Pd.T) (step:Nat→R Po.T) (i:Nat):R Po.T:=match cnd i with
  | .bad j=>.bad j
  | .ok c j=>if is l j wThen=true then match step (j+1) with
      | .bad j=>.bad j
      | .ok a j=>if is l j wElse=true then match step (j+1) with
          | .bad j=>.bad j
          | .ok b j=>.ok (.mk 5 c 0 0 [a,b]) j
        else .bad j
    else .bad j
def step (l:List Lx.B):Nat→Nat→R Po.T
  | 0,i=>.bad i
  | n+1,i =>
    if is l i wDrop=true then .ok (.mk 1 (.mk 2 0 0 []) 0 0 []) (i+1)
    else if is l i wId=true then .ok (.mk 1 (.mk 1 0 0 []) 0 0 []) (i+1)
    else if is l i wWhen=true then match cond l (part l l.length) (i+1) with
      | .ok c j=>.ok (.mk 1 c 0 0 []) j
      | .bad j=>.bad j
    else if is l i wIf=true then choice l (cond l (part l l.length)) (step l n) (i+1)
    else if is l i wOpen=true then shut l (rows l (step l n) (i+1))
    else match assign l 5 wSet i with
      | .ok (f,v) j=>.ok (.mk 2 none26 f v []) j
      | .bad j=>.bad j
def whole {α:Type} (l:List Lx.B):R α→R α
  | .ok x j=>if (tk l j).k=4 then .ok x 0 else .bad j
  | .bad j=>.bad j
end Ps
set_option linter.unusedSimpArgs false
namespace Lx
theorem tw_idx (p:UInt8→Bool):∀ (t:List UInt8),(∀ k,k<(t.takeWhile p).length→k<t.length∧p (t.getD k 0)=true)∧((t.takeWhile p).length=t.length∨((t.takeWhile p).length<t.length∧p (t.getD (t.takeWhile p).length 0)=false))
  | []=>⟨fun k h=>by simp at h,.inl rfl⟩
  | c::t=>by
    obtain ⟨h1,h2⟩:=tw_idx p t
    by_cases hc:p c=true
    · rw [List.takeWhile_cons_of_pos hc]
      refine ⟨fun k hk=>?_,?_⟩
      · cases k with
        | zero=>exact ⟨by simp,by simpa using hc⟩
        | succ k =>
          simp only [List.length_cons] at hk ⊢
          obtain ⟨a,b⟩:=h1 k (by omega)
          exact ⟨by omega,by simpa using b⟩
      · simp only [List.length_cons]
        rcases h2 with h | ⟨h,h'⟩
        · exact .inl (by omega)
        · exact .inr ⟨by omega,by simpa using h'⟩
    · rw [List.takeWhile_cons_of_neg hc]
      exact ⟨fun k hk=>by simp at hk,.inr ⟨by simp,by simpa using hc⟩⟩
theorem getD_drop (l:List UInt8) (i k:Nat):(l.drop i).getD k 0=l.getD (i+k) 0:=by simp [List.getD]
def wl (p:UInt8→Bool) (s:List UInt8) (i:Nat):Nat:=((s.drop i).takeWhile p).length
theorem wl_le (p:UInt8→Bool) (s:List UInt8) (i:Nat) (hi:i≤s.length):i+wl p s i≤s.length:=by
  have:=congrArg List.length (List.takeWhile_append_dropWhile (p:=p) (l:=s.drop i))
  simp only [List.length_append,List.length_drop] at this
  unfold wl
  omega
end Lx
def LB (a:Addr) (s:List UInt8) (i:Nat):Blk:=⟨a,[.str s,.int .i64 i],.var 169⟩
set_option maxHeartbeats 1000000 in
theorem f7 (f:FuncId) (p:UInt8→Bool) (hf:∀ c:UInt8,NCall Tryz.prog f [.int .u8 c.toNat] [] fun r _=>r = .bool (p c)) (a:Addr) (tx:List UInt8) (i:Nat) (hi:i≤tx.length) (hs:tx.length≤10000) :
    NCall Tryz.prog 119 [.ptr 0 a 0,.fn f [] []] [LB a tx i] fun r m=>r = .str ((tx.drop i).takeWhile p)∧m=[LB a tx (i+Lx.wl p tx i)]:=by
  obtain ⟨h1,h2⟩:=Lx.tw_idx p (tx.drop i)
  have hle:=Lx.wl_le p tx i hi
  have ht:(tx.drop i).take (Lx.wl p tx i)=(tx.drop i).takeWhile p:=(Lx.tw_take _ _).1
  have h1':∀ j,i≤j→j<i+Lx.wl p tx i→p (tx.getD j 0)=true:=fun j hj hj2=>by
    have:=(h1 (j - i) (by unfold Lx.wl at hj2;omega)).2
    rw [Lx.getD_drop,show i+(j - i)=j by omega] at this
    exact this
  have h2':i+Lx.wl p tx i=tx.length∨(i+Lx.wl p tx i<tx.length∧p (tx.getD (i+Lx.wl p tx i) 0)=false):=by
    rcases h2 with h | ⟨h,h'⟩
    · left;rw [List.length_drop] at h;unfold Lx.wl;omega
    · right
      rw [List.length_drop] at h
      rw [Lx.getD_drop] at h'
      exact ⟨by unfold Lx.wl;omega,h'⟩
  clear h1 h2
  generalize Lx.wl p tx i=w at *
  generalize (tx.drop i).takeWhile p=res at *
  refine aA Tryz.func119 rfl (by decide) ?_
  unfold LB
  repeat' first|(refine sxZ ?_;try clear hK K)|refine sxW ?_ ?_<;>intro _|(intro K hK _;conv=>whnf)
  refine aD (α:=Nat) (fun j=>i≤j∧j≤i+w) (fun j=>[.k,.k,.k,.k,.k,.k,.k,.k,.k,.k,.d,.d,.d,.d,.d,.d,.d,.d,.d,.d,.d,.d,.d,.d,.d,.d,.d,.d,.d,.d,.d,.d,.d,.d,.d,.d,.d,.d,.d,.d,.k,.k,.k,.k,.k,.k,.k,.k,.k,.k]) (fun j=>[.cells [.str tx,.int .i64 j]]) (fun j=>i+w - j) i ⟨Nat.le_refl _,by omega⟩ ?_ ?_ ?_
  · exact aC
  · exact MemFits.eq rfl
  (intro j ⟨hj1,hj2⟩;intro K hK;(conv=>whnf);refine hK _ _ ?_;clear hK K)
  by_cases hlt:j<i+w
  · have hp:=h1' j hj1 hlt
    have hc:=hf (tx.getD j 0)
    rw [hp] at hc
    repeat' first|((try intro K hK);(with_reducible refine gQ ?_);refine NCallQ.pureEq hc ?_;conv=>whnf)|(refine sxZ ?_;try clear hK K)|refine sxW ?_ ?_<;>intro _|(intro K hK _;conv=>whnf)
    refine aB (j+1) ⟨by omega,by omega⟩ (by omega) ?_ (MemFits.eq rfl)
    exact aC
  · have e:j=i+w:=by omega
    subst e
    have e2:i+w - i=w:=by omega
    have hns:(tx.drop i).take (i+w - i)=res:=by rw [e2,ht]
    rcases h2' with h | ⟨h,hp⟩
    · (repeat' (first|(with_reducible first|(refine hK _ _ ?_;clear hK K)|(refine hA ?_;clear hA hB A B)|(refine hB ?_;clear hA hB A B)|(refine hK _ ?_;clear hK K))|((with_reducible refine NS.eq (hns) ?_)<;>(conv=>whnf))|refine dB ?_|refine dQ ?_|((with_reducible refine gX ?_);refine z34 (by kernel_rfl) (by kernel_rfl) ?_)|(refine bQ ?_;intro K hK;conv=>whnf)|(refine bF ?_;intro A B hA hB;conv=>whnf)|((with_reducible first|refine NIf.dec (fun _=>?_) (fun _=>?_)|refine NIf.both (fun _=>?_) (fun _=>?_))<;>(conv=>whnf))|((intro _;skip)<;>(conv=>whnf))))
      all_goals exact ⟨rfl,rfl⟩
    · have hc:=hf (tx.getD (i+w) 0)
      rw [hp] at hc
      (repeat' (first|(with_reducible first|(refine hK _ _ ?_;clear hK K)|(refine hA ?_;clear hA hB A B)|(refine hB ?_;clear hA hB A B)|(refine hK _ ?_;clear hK K))|((first|((with_reducible refine gQ ?_);refine NCallQ.pureEq (hc) ?_)|(with_reducible refine NS.eq (hns) ?_))<;>(conv=>whnf))|refine dB ?_|refine dQ ?_|((with_reducible refine gX ?_);refine z34 (by kernel_rfl) (by kernel_rfl) ?_)|(refine bQ ?_;intro K hK;conv=>whnf)|(refine bF ?_;intro A B hA hB;conv=>whnf)|((with_reducible first|refine NIf.dec (fun _=>?_) (fun _=>?_)|refine NIf.both (fun _=>?_) (fun _=>?_))<;>(conv=>whnf))|((intro _;skip)<;>(conv=>whnf))))
      all_goals exact ⟨rfl,rfl⟩
theorem rF (c:UInt8):Lx.isSp c=decide (c.toNat=32∨c.toNat=9∨c.toNat=10):=by
  rw [Bool.eq_iff_iff];unfold Lx.isSp
  simp only [Bool.or_eq_true,beq_iff_eq,decide_eq_true_eq,← UInt8.toNat_inj,or_assoc]
  rfl
theorem rf (c:UInt8):Lx.isL c=decide (97≤c.toNat∧c.toNat≤122):=by
  rw [Bool.eq_iff_iff];unfold Lx.isL
  simp only [Bool.and_eq_true,decide_eq_true_eq]
theorem kr (c:UInt8):Lx.isD c=decide (48≤c.toNat∧c.toNat≤57):=by
  rw [Bool.eq_iff_iff];unfold Lx.isD
  simp only [Bool.and_eq_true,decide_eq_true_eq]
theorem lm (c:UInt8):Lx.notNl c=decide (c.toNat≠10):=by
  rw [Bool.eq_iff_iff];unfold Lx.notNl
  simp only [Bool.not_eq_true',beq_eq_false_iff_ne,decide_eq_true_eq,ne_eq,← UInt8.toNat_inj]
  rfl
theorem qE (c:UInt8):NCall Tryz.prog 120 [.int .u8 c.toNat] [] fun r _=>r = .bool (Lx.isSp c):=by
  rw [rF]
  refine aA Tryz.func120 rfl (by decide) ?_
  repeat' first|(refine sxZ ?_;try clear hK K)|refine sxW ?_ ?_<;>intro _|(intro K hK _;conv=>whnf)
  all_goals first
    | exact boolT (by omega)
    | exact cZ (by omega)
    | exact dl (by simp only [decide_eq_true_eq];omega)
theorem kY (c:UInt8):NCall Tryz.prog 122 [.int .u8 c.toNat] [] fun r _=>r = .bool (Lx.isL c):=by
  rw [rf]
  refine aA Tryz.func122 rfl (by decide) ?_
  repeat' first|(refine sxZ ?_;try clear hK K)|refine sxW ?_ ?_<;>intro _|(intro K hK _;conv=>whnf)
  all_goals first
    | exact boolT (by omega)
    | exact cZ (by omega)
    | exact dl (by simp only [decide_eq_true_eq];omega)
theorem me (c:UInt8):NCall Tryz.prog 123 [.int .u8 c.toNat] [] fun r _=>r = .bool (Lx.isD c):=by
  rw [kr]
  refine aA Tryz.func123 rfl (by decide) ?_
  repeat' first|(refine sxZ ?_;try clear hK K)|refine sxW ?_ ?_<;>intro _|(intro K hK _;conv=>whnf)
  all_goals first
    | exact boolT (by omega)
    | exact cZ (by omega)
    | exact dl (by simp only [decide_eq_true_eq];omega)
theorem qS (c:UInt8):NCall Tryz.prog 121 [.int .u8 c.toNat] [] fun r _=>r = .bool (Lx.notNl c):=by
  rw [lm]
  refine aA Tryz.func121 rfl (by decide) ?_
  repeat' first|(refine sxZ ?_;try clear hK K)|refine sxW ?_ ?_<;>intro _|(intro K hK _;conv=>whnf)
  all_goals first
    | exact boolT (by omega)
    | exact cZ (by omega)
    | exact dl (by simp only [Bool.not_eq_true',decide_eq_false_iff_not];omega)
namespace Lx
def sk (tx:List UInt8) (i:Nat):Nat:=tx.length - (skip (tx.drop i)).length
theorem drop_wl (p:UInt8→Bool) (tx:List UInt8) (i:Nat):(tx.drop i).dropWhile p=tx.drop (i+wl p tx i):=by
  have:=(tw_take p (tx.drop i)).2
  rw [List.drop_drop] at this
  exact this.symm
theorem drop_getD (tx:List UInt8) (i:Nat) (hi:i<tx.length):tx.drop i=tx.getD i 0::tx.drop (i+1):=by
  rw [List.drop_eq_getElem_cons hi]
  simp [List.getD,hi]
end Lx
set_option maxHeartbeats 1000000 in
theorem oZ (a:Addr) (tx:List UInt8) (i:Nat) (hi:i≤tx.length) (hs:tx.length≤10000) :
    NCall Tryz.prog 98 [.ptr 0 a 0] [LB a tx i] fun r m=>r = .tup []∧m=[LB a tx (Lx.sk tx i)]:=by
  refine aA Tryz.func98 rfl (by decide) ?_
  repeat' first|(refine sxZ ?_;try clear hK K)|refine sxW ?_ ?_<;>intro _|(intro K hK _;conv=>whnf)
  refine aD (α:=Nat) (fun j=>j≤tx.length∧Lx.skip (tx.drop j)=Lx.skip (tx.drop i)) (fun j=>[.k,.k,.d,.d,.d,.d,.d,.d,.d,.d,.d,.d,.d,.d,.d,.d,.d,.d,.d,.d,.d,.d,.d,.d,.d,.d,.d,.d]) (fun j=>[.set (LB a tx j)]) (fun j=>tx.length - j) i ⟨hi,rfl⟩ ?_ ?_ ?_
  · exact aC
  · exact MemFits.eq rfl
  (intro j ⟨hj,hjs⟩;intro K hK;(conv=>whnf);refine hK _ _ ?_;clear hK K)
  have hw1:=f7 120 Lx.isSp qE a tx j hj hs
  have hle:=Lx.wl_le Lx.isSp tx j hj
  have hd:=Lx.drop_wl Lx.isSp tx j
  have hj1:j≤j+Lx.wl Lx.isSp tx j:=Nat.le_add_right _ _
  generalize j+Lx.wl Lx.isSp tx j=j1 at *
  by_cases h1:j1=tx.length
  · have e:Lx.sk tx i=j1:=by
      unfold Lx.sk
      rw [← hjs,Lx.skip_nil (by rw [hd,h1];simp)]
      simp [h1]
    rw [e]
    repeat' first|(intro K hK;(with_reducible refine gC ?_);refine cS [0] hw1 ?_)|(refine sxZ ?_;try clear hK K)|refine sxW ?_ ?_<;>intro _|(intro K hK _;conv=>whnf)
    all_goals exact ⟨rfl,rfl⟩
  · have hlt:j1<tx.length:=by omega
    have hg:=Lx.drop_getD tx j1 hlt
    by_cases h2:(tx.getD j1 0)=35
    · have hw2:=f7 121 Lx.notNl qS a tx j1 (by omega) hs
      have hle2:=Lx.wl_le Lx.notNl tx j1 (by omega)
      have hd2:=Lx.drop_wl Lx.notNl tx j1
      have hn:(tx.getD j1 0).toNat=35:=by rw [h2];rfl
      have hpos:j1<j1+Lx.wl Lx.notNl tx j1:=by
        unfold Lx.wl
        rw [hg,h2,List.takeWhile_cons_of_pos (by decide)]
        simp
      have hst:Lx.skip (tx.drop (j1+Lx.wl Lx.notNl tx j1))=Lx.skip (tx.drop i):=by
        rw [← hjs,Lx.skip_cons (hd.trans hg),if_pos h2,← hd2,hg,h2,List.dropWhile_cons_of_pos (by decide)]
      generalize j1+Lx.wl Lx.notNl tx j1=j2 at *
      repeat' first|(intro K hK;(with_reducible refine gC ?_);first|refine cS [0] hw1 ?_|refine cS [0] hw2 ?_)|(refine sxZ ?_;try clear hK K)|refine sxW ?_ ?_<;>intro _|(intro K hK _;conv=>whnf)
      all_goals first
        | (refine aB j2 ⟨hle2,hst⟩ (by omega) ?_ (MemFits.eq rfl)
           exact aC
          )
    · have hn:(tx.getD j1 0).toNat≠35:=fun e=>h2 (UInt8.toNat_inj.1 (by rw [e];rfl))
      have e:Lx.sk tx i=j1:=by
        unfold Lx.sk
        rw [← hjs,Lx.skip_cons (hd.trans hg),if_neg h2,← hg,List.length_drop]
        omega
      rw [e]
      repeat' first|(intro K hK;(with_reducible refine gC ?_);refine cS [0] hw1 ?_)|(refine sxZ ?_;try clear hK K)|refine sxW ?_ ?_<;>intro _|(intro K hK _;conv=>whnf)
      all_goals exact ⟨rfl,rfl⟩
def bX (k n:Int) (t:List UInt8) (at_:Int):AV:=.agg [.int .i64 k,.int .i64 n,.str t,.int .i64 at_]
theorem oL (c:UInt8) (h:Lx.isD c=true):IntKind.u8.wrap ((c.toNat:Int) - 48)=((c.toNat - 48:Nat):Int):=by
  rw [kr] at h
  have:=of_decide_eq_true h
  rw [p9];omega
theorem num_lt:∀ (d:List UInt8),d.length≤3→(∀ c∈d,Lx.isD c=true)→Lx.num d≤999:=by
  intro d hl hd
  have h9:∀ c∈d,c.toNat - 48≤9:=fun c hc=>by
    have:=hd c hc
    rw [kr] at this
    have:=of_decide_eq_true this
    omega
  match d with
  | []=>simp [Lx.num]
  | [a]=>have:=h9 a (by simp);simp [Lx.num];omega
  | [a,b]=>have:=h9 a (by simp);have:=h9 b (by simp);simp [Lx.num];omega
  | [a,b,c]=>have:=h9 a (by simp);have:=h9 b (by simp);have:=h9 c (by simp);simp [Lx.num];omega
  | a::b::c::e::r=>simp at hl
theorem kM (d:List UInt8) (k:Nat) (hk:k<d.length):Lx.num (d.take (k+1))=10*Lx.num (d.take k)+((d.getD k 0).toNat - 48):=by
  have e:d.take (k+1)=d.take k++[d.getD k 0]:=by
    rw [List.take_add_one]
    simp [List.getD,hk]
  unfold Lx.num
  rw [e,List.foldl_append]
  rfl
def Lx.numOk (d:List UInt8):Prop:=¬ (3<d.length∨(1<d.length∧d.getD 0 0=48))
instance (d:List UInt8):Decidable (Lx.numOk d):=by unfold Lx.numOk;infer_instance
set_option maxHeartbeats 1000000 in
theorem ov (a:Addr) (tx:List UInt8) (i:Nat) (hi:i≤tx.length) (hs:tx.length≤10000) (d:List UInt8) (hd:(tx.drop i).takeWhile Lx.isD=d) (hne:d≠[]) :
    NCall Tryz.prog 124 [.ptr 0 a 0] [LB a tx i] fun r m=>r = .tup [if Lx.numOk d then bX 2 (Lx.num d) [] i else bX 0 0 [] i,.bool (decide (Lx.numOk d))]∧MemFits m [LB a tx (i+d.length)]:=by
  have hall:∀ c∈d,Lx.isD c=true:=fun c hc=>by rw [← hd] at hc;exact Lx.tw_all hc
  have hw:=f7 123 Lx.isD me a tx i hi hs
  have hwl:Lx.wl Lx.isD tx i=d.length:=by unfold Lx.wl;rw [hd]
  rw [hwl,hd] at hw
  have hl1:1≤d.length:=by cases d with | nil=>exact (hne rfl).elim | cons x d=>simp
  clear hd hwl
  refine aA Tryz.func124 rfl (by decide) ?_
  by_cases h:Lx.numOk d
  · rw [if_pos h,decide_eq_true h]
    have hl3:d.length≤3:=by
      by_cases e:3<d.length
      · exact (h (.inl e)).elim
      · omega
    have hz:¬ (1<d.length∧(d.getD 0 0).toNat=48):=fun e=>h (.inr ⟨e.1,UInt8.toNat_inj.1 (by rw [e.2];rfl)⟩)
    have hk:=num_lt
    unfold bX
    by_cases h1:1<d.length
    · have hz0:(d.getD 0 0).toNat≠48:=fun e=>hz ⟨h1,e⟩
      repeat' first|(intro K hK;(with_reducible refine gC ?_);refine cS [0] hw ?_)|(refine sxZ ?_;try clear hK K)|refine sxW ?_ ?_<;>intro _|(intro K hK _;conv=>whnf)
      all_goals
        refine aD (α:=Nat) (fun k=>k≤d.length) (fun k=>[.k,.k,.k,.k,.k,.k,.set (.int .i64 (Lx.num (d.take k))),.d,.k,.k,.k,.k,.k,.k,.k,.k,.k,.k,.k,.k,.k,.k,.k,.k,.k,.k,.k,.k,.k,.k,.k,.set (.int .i64 k),.d,.d,.d,.d,.d,.d,.d,.d,.d,.d,.d,.k,.k,.k]) (fun _=>[]) (fun k=>d.length - k) 0 (Nat.zero_le _) ?_ (MemFits.eq rfl) ?_
        · exact aC
        (intro k hk;intro K hK;(conv=>whnf);refine hK _ _ ?_;clear hK K)
        by_cases hlt:k<d.length
        · have hn:=kM d k hlt
          have hb:=num_lt (d.take k) (by rw [List.length_take];omega) (fun c hc=>hall c (List.mem_of_mem_take hc))
          have hdk:Lx.isD (d.getD k 0)=true:=hall _ (by simp [List.getD,hlt])
          have hsub:=oL _ hdk
          rw [kr] at hdk
          have hdk:=of_decide_eq_true hdk
          generalize Lx.num (d.take k)=nk at *
          have hcv:IntKind.i64.wrap (((d.getD k 0).toNat - 48:Nat):Int)=(((d.getD k 0).toNat - 48:Nat):Int):=wrap_i64 (by omega) (by omega)
          (repeat' (first|(with_reducible first|(refine hK _ _ ?_;clear hK K)|(refine hA ?_;clear hA hB A B)|(refine hB ?_;clear hA hB A B)|(refine hK _ ?_;clear hK K))|((with_reducible first|refine NV.eq (hsub) ?_|refine NV.eq (hcv) ?_)<;>(conv=>whnf))|refine dB ?_|refine dQ ?_|((with_reducible refine gX ?_);refine z34 (by kernel_rfl) (by kernel_rfl) ?_)|(refine bQ ?_;intro K hK;conv=>whnf)|(refine bF ?_;intro A B hA hB;conv=>whnf)|((with_reducible first|refine NIf.dec (fun _=>?_) (fun _=>?_)|refine NIf.both (fun _=>?_) (fun _=>?_))<;>(conv=>whnf))|((intro _;skip)<;>(conv=>whnf))))
          refine aB (k+1) hlt (by omega) ?_ (MemFits.eq rfl)
          repeat (first | exact FitsSl.nil | refine FitsSl.any ?_ | refine FitsSl.cons (Fit1.int (by  first | rfl | (rw [hn];omega) | omega)) ?_ | refine FitsSl.cons (Fit1.int (by first | rfl | omega)) ?_ | refine FitsSl.cons (Fit1.bool rfl) ?_ | refine FitsSl.cons (Fit1.str rfl) ?_ | refine FitsSl.cons (Fit1.same (by intro h;cases h) (by with_reducible rfl)) ?_ | refine FitsSl.cons Fit1.nil_sl ?_ | refine FitsSl.cons (Fit1.hs rfl) ?_ | refine FitsSl.cons (Fit1.hp rfl rfl) ?_ | refine FitsSl.cons (Fit1.sl rfl) ?_ | refine FitsSl.cons (Fit1.ptr rfl rfl) ?_ | refine FitsSl.cons Fit1.raw ?_)
        · have e:k=d.length:=by omega
          subst e
          rw [List.take_length]
          repeat' first|(refine sxZ ?_;try clear hK K)|refine sxW ?_ ?_<;>intro _|(intro K hK _;conv=>whnf)
          all_goals exact ⟨rfl,MemFits.drop [_] [_]⟩
    · repeat' first|(intro K hK;(with_reducible refine gC ?_);refine cS [0] hw ?_)|(refine sxZ ?_;try clear hK K)|refine sxW ?_ ?_<;>intro _|(intro K hK _;conv=>whnf)
      all_goals
        refine aD (α:=Nat) (fun k=>k≤d.length) (fun k=>[.k,.k,.k,.k,.k,.k,.set (.int .i64 (Lx.num (d.take k))),.d,.k,.k,.k,.k,.k,.k,.k,.k,.k,.k,.k,.k,.k,.k,.k,.k,.k,.k,.k,.k,.k,.k,.k,.set (.int .i64 k),.d,.d,.d,.d,.d,.d,.d,.d,.d,.d,.d,.k,.k,.k]) (fun _=>[]) (fun k=>d.length - k) 0 (Nat.zero_le _) ?_ (MemFits.eq rfl) ?_
        · exact aC
        (intro k hk;intro K hK;(conv=>whnf);refine hK _ _ ?_;clear hK K)
        by_cases hlt:k<d.length
        · have hn:=kM d k hlt
          have hb:=num_lt (d.take k) (by rw [List.length_take];omega) (fun c hc=>hall c (List.mem_of_mem_take hc))
          have hdk:Lx.isD (d.getD k 0)=true:=hall _ (by simp [List.getD,hlt])
          have hsub:=oL _ hdk
          rw [kr] at hdk
          have hdk:=of_decide_eq_true hdk
          generalize Lx.num (d.take k)=nk at *
          have hcv:IntKind.i64.wrap (((d.getD k 0).toNat - 48:Nat):Int)=(((d.getD k 0).toNat - 48:Nat):Int):=wrap_i64 (by omega) (by omega)
          (repeat' (first|(with_reducible first|(refine hK _ _ ?_;clear hK K)|(refine hA ?_;clear hA hB A B)|(refine hB ?_;clear hA hB A B)|(refine hK _ ?_;clear hK K))|((with_reducible first|refine NV.eq (hsub) ?_|refine NV.eq (hcv) ?_)<;>(conv=>whnf))|refine dB ?_|refine dQ ?_|((with_reducible refine gX ?_);refine z34 (by kernel_rfl) (by kernel_rfl) ?_)|(refine bQ ?_;intro K hK;conv=>whnf)|(refine bF ?_;intro A B hA hB;conv=>whnf)|((with_reducible first|refine NIf.dec (fun _=>?_) (fun _=>?_)|refine NIf.both (fun _=>?_) (fun _=>?_))<;>(conv=>whnf))|((intro _;skip)<;>(conv=>whnf))))
          refine aB (k+1) hlt (by omega) ?_ (MemFits.eq rfl)
          repeat (first | exact FitsSl.nil | refine FitsSl.any ?_ | refine FitsSl.cons (Fit1.int (by  first | rfl | (rw [hn];omega) | omega)) ?_ | refine FitsSl.cons (Fit1.int (by first | rfl | omega)) ?_ | refine FitsSl.cons (Fit1.bool rfl) ?_ | refine FitsSl.cons (Fit1.str rfl) ?_ | refine FitsSl.cons (Fit1.same (by intro h;cases h) (by with_reducible rfl)) ?_ | refine FitsSl.cons Fit1.nil_sl ?_ | refine FitsSl.cons (Fit1.hs rfl) ?_ | refine FitsSl.cons (Fit1.hp rfl rfl) ?_ | refine FitsSl.cons (Fit1.sl rfl) ?_ | refine FitsSl.cons (Fit1.ptr rfl rfl) ?_ | refine FitsSl.cons Fit1.raw ?_)
        · have e:k=d.length:=by omega
          subst e
          rw [List.take_length]
          repeat' first|(refine sxZ ?_;try clear hK K)|refine sxW ?_ ?_<;>intro _|(intro K hK _;conv=>whnf)
          all_goals exact ⟨rfl,MemFits.drop [_] [_]⟩
  · rw [if_neg h,decide_eq_false h]
    unfold bX
    have h':3<d.length∨(1<d.length∧(d.getD 0 0).toNat=48):=by
      by_cases e:3<d.length
      · exact .inl e
      · by_cases e2:1<d.length∧d.getD 0 0=48
        · exact .inr ⟨e2.1,by rw [e2.2];rfl⟩
        · exact (h (fun q=>q.elim e e2)).elim
    repeat' first|(intro K hK;(with_reducible refine gC ?_);refine cS [0] hw ?_)|(refine sxZ ?_;try clear hK K)|refine sxW ?_ ?_<;>intro _|(intro K hK _;conv=>whnf)
    all_goals first
      | exact ⟨rfl,MemFits.drop [_] [_]⟩
      | (exfalso;omega)
theorem nY (t:List UInt8) (ht:t.length≤10000):NCall Tryz.prog 159 [.str t,.str [58,61]] [] fun r _=>r = .bool (decide (t.take 2=[58,61])):=by
  refine aA Tryz.func159 rfl (by decide) ?_
  by_cases h:2≤t.length
  · (repeat' (first|(with_reducible first|(refine hK _ _ ?_;clear hK K)|(refine hA ?_;clear hA hB A B)|(refine hB ?_;clear hA hB A B)|(refine hK _ ?_;clear hK K))|(((with_reducible refine NN.eq (n:=2) ?side ?_);case side=>omega)<;>(conv=>whnf))|refine dB ?_|refine dQ ?_|((with_reducible refine gX ?_);refine z34 (by kernel_rfl) (by kernel_rfl) ?_)|(refine bQ ?_;intro K hK;conv=>whnf)|(refine bF ?_;intro A B hA hB;conv=>whnf)|((with_reducible first|refine NIf.dec (fun _=>?_) (fun _=>?_)|refine NIf.both (fun _=>?_) (fun _=>?_))<;>(conv=>whnf))|((intro _;skip)<;>(conv=>whnf))))
    all_goals first | rfl | (exfalso;simp only [List.length_cons,List.length_nil] at *;omega)
  · have hn:t.take 2≠[58,61]:=fun e=>by
      have:=congrArg List.length e
      rw [List.length_take] at this
      simp at this
      omega
    repeat' first|(refine sxZ ?_;try clear hK K)|refine sxW ?_ ?_<;>intro _|(intro K hK _;conv=>whnf)
    all_goals first | exact cZ hn | (exfalso;simp only [List.length_cons,List.length_nil] at *;omega)
theorem om (t:List UInt8) (ht:t.length≤10000):NCall Tryz.prog 125 [.str t,.str [58,61]] [] fun r _=>r = .bool (decide (t.take 2=[58,61])):=by
  have h:=nY t ht
  refine aA Tryz.func125 rfl (by decide) ?_
  repeat' first|(intro K hK;(with_reducible refine gC ?_);refine cP h ?_)|(refine sxZ ?_;try clear hK K)|refine sxW ?_ ?_<;>intro _|(intro K hK _;conv=>whnf)
  all_goals rfl
theorem nf:∀ n:Nat,n<256→(0≤Lib.indexByte [40,41,59,124,61] n.toUInt8↔Lx.isS n.toUInt8=true):=by decide +kernel
theorem qZ (c:UInt8):NCall Tryz.prog 126 [.str [40,41,59,124,61],.int .u8 c.toNat] [] fun r _=>∃ j:Int,r = .int .i64 j∧(0≤j↔Lx.isS c=true):=by
  have hc:=nf c.toNat c.toNat_lt
  have e:c.toNat.toUInt8=c:=by simp
  rw [e] at hc
  refine (kS (r:=.int .i64 (Lib.indexByte [40,41,59,124,61] c)) (Go.Sx.enters_of Tryz.func126 rfl (by decide)) fun w hw=>?_).mono fun r m h=>⟨_,h.1,hc⟩
  refine (Tryz.strings_IndexByte ⟨#[40,41,59,124,61]⟩ c.toNat w).mono fun e' w' ⟨h1,h2⟩=>?_
  subst h2
  refine ⟨?_,rfl,rfl,rfl,Nat.le_refl _,fun _ _=>rfl⟩
  rw [h1,Int.toNat_natCast,e]
  rfl
theorem rn (tx:List UInt8) (i:Nat):((tx.drop i).take 2=[58,61])↔(i<tx.length∧tx.getD i 0=58∧(tx.drop (i+1)).head?=some 61):=by
  by_cases h:i<tx.length
  · rw [Lx.drop_getD tx i h]
    cases hr:tx.drop (i+1) with
    | nil=>simp
    | cons d r=>simp [h]
  · rw [List.drop_eq_nil_of_le (by omega)]
    simp;omega
set_option maxHeartbeats 2000000 in
theorem ox (a:Addr) (tx:List UInt8) (i:Nat) (hi:i<tx.length) (hs:tx.length≤10000) :
    NCall Tryz.prog 99 [.ptr 0 a 0] [LB a tx i] fun r m =>
      (∀ b n,Lx.nextB (tx.drop i)=some (b,n)→r = .tup [bX b.k b.n b.s i,.bool true]∧MemFits m [LB a tx (i+n)]) ∧
      (Lx.nextB (tx.drop i)=none→r = .tup [bX 0 0 [] i,.bool false]∧∃ j,MemFits m [LB a tx j]):=by
  have hg:=Lx.drop_getD tx i hi
  have hnb:=Lx.nextB_eq (tx.getD i 0) (tx.drop (i+1))
  rw [← hg] at hnb
  have hl:=kY (tx.getD i 0)
  have hd:=me (tx.getD i 0)
  have hp:=om (tx.drop i) (by rw [List.length_drop];omega)
  have hx:=qZ (tx.getD i 0)
  have h2:=rn tx i
  refine aA Tryz.func99 rfl (by decide) ?_
  unfold bX
  by_cases c1:Lx.isL (tx.getD i 0)=true
  · rw [if_pos c1] at hnb
    rw [c1] at hl
    have hw:=f7 122 Lx.isL kY a tx i (by omega) hs
    have hwl:Lx.wl Lx.isL tx i=((tx.drop i).takeWhile Lx.isL).length:=rfl
    rw [hwl] at hw
    generalize (tx.drop i).takeWhile Lx.isL=ws at *
    repeat' first|(intro K hK;(with_reducible refine gC ?_);first|refine cP hl ?_|refine cS [0] hw ?_)|(refine sxO ?_;try clear hK K)|refine sxW ?_ ?_<;>intro _|refine sxV ?_ ?_|(intro K hK _;conv=>whnf)
    all_goals first
      | exact ⟨fun b n e=>by rw [hnb] at e;injection e with e;injection e with e1 e2;subst e1 e2;exact ⟨rfl,MemFits.drop [_] [_]⟩,fun e=>by rw [hnb] at e;cases e⟩
      | skip
  rw [if_neg c1] at hnb
  rw [show Lx.isL (tx.getD i 0)=false by simpa using c1] at hl
  by_cases c2:Lx.isD (tx.getD i 0)=true
  · rw [if_pos c2] at hnb
    rw [c2] at hd
    have hne:(tx.drop i).takeWhile Lx.isD≠[]:=by rw [hg,List.takeWhile_cons_of_pos c2];simp
    have h0:((tx.drop i).takeWhile Lx.isD).getD 0 0=tx.getD i 0:=by rw [hg,List.takeWhile_cons_of_pos c2];rfl
    have hw:NCall Tryz.prog 124 [.ptr 0 a 0] [LB a tx i] fun r m=>r = .tup [if Lx.numOk ((tx.drop i).takeWhile Lx.isD) then bX 2 (Lx.num ((tx.drop i).takeWhile Lx.isD)) [] i else bX 0 0 [] i,.bool (decide (Lx.numOk ((tx.drop i).takeWhile Lx.isD)))]∧m=[LB a tx (i+((tx.drop i).takeWhile Lx.isD).length)] :=
      (ov a tx i (by omega) hs _ rfl hne).fits fun r m h=>⟨r,_,rfl,h.2,h.1,rfl⟩
    have hok:Lx.numOk ((tx.drop i).takeWhile Lx.isD)↔¬ (3<((tx.drop i).takeWhile Lx.isD).length∨(1<((tx.drop i).takeWhile Lx.isD).length∧tx.getD i 0=48)):=by unfold Lx.numOk;rw [h0]
    generalize (tx.drop i).takeWhile Lx.isD=ds at *
    by_cases hk:Lx.numOk ds
    · rw [if_neg (hok.1 hk)] at hnb
      rw [if_pos hk,decide_eq_true hk] at hw
      unfold bX at hw
      repeat' first|(intro K hK;(with_reducible refine gC ?_);first|refine cP hl ?_|refine cP hd ?_|refine cS [0] hw ?_)|(refine sxO ?_;try clear hK K)|refine sxW ?_ ?_<;>intro _|refine sxV ?_ ?_|(intro K hK _;conv=>whnf)
      all_goals first
        | exact ⟨fun b n e=>by rw [hnb] at e;injection e with e;injection e with e1 e2;subst e1 e2;exact ⟨rfl,MemFits.drop [_] [_]⟩,fun e=>by rw [hnb] at e;cases e⟩
        | skip
    · rw [if_pos (Decidable.not_not.1 fun q=>hk (hok.2 q))] at hnb
      rw [if_neg hk,decide_eq_false hk] at hw
      unfold bX at hw
      repeat' first|(intro K hK;(with_reducible refine gC ?_);first|refine cP hl ?_|refine cP hd ?_|refine cS [0] hw ?_)|(refine sxO ?_;try clear hK K)|refine sxW ?_ ?_<;>intro _|refine sxV ?_ ?_|(intro K hK _;conv=>whnf)
      all_goals first
        | exact ⟨fun b n e=>(by rw [hnb] at e;cases e),fun _=>⟨rfl,i+ds.length,MemFits.drop [_] [_]⟩⟩
        | skip
  rw [if_neg c2] at hnb
  rw [show Lx.isD (tx.getD i 0)=false by simpa using c2] at hd
  by_cases c3:(tx.drop i).take 2=[58,61]
  · have c3':=(h2.1 c3).2
    rw [if_pos c3'] at hnb
    rw [decide_eq_true c3] at hp
    repeat' first|(intro K hK;(with_reducible refine gC ?_);first|refine cP hl ?_|refine cP hd ?_|refine cP hp ?_)|(refine sxO ?_;try clear hK K)|refine sxW ?_ ?_<;>intro _|refine sxV ?_ ?_|(intro K hK _;conv=>whnf)
    all_goals first
      | exact ⟨fun b n e=>by rw [hnb] at e;injection e with e;injection e with e1 e2;subst e1 e2;exact ⟨rfl,MemFits.drop [_] [_]⟩,fun e=>by rw [hnb] at e;cases e⟩
      | skip
  have c3':¬ (tx.getD i 0=58∧(tx.drop (i+1)).head?=some 61):=fun e=>c3 (h2.2 ⟨hi,e⟩)
  rw [if_neg c3'] at hnb
  rw [decide_eq_false c3] at hp
  by_cases c4:Lx.isS (tx.getD i 0)=true
  · rw [if_pos c4] at hnb
    repeat' first|((try intro K hK);(with_reducible refine gC ?_);first|refine cP hl ?_|refine cP hd ?_|refine cP hp ?_|(refine NCall.pure hx ?_;rintro _ _ ⟨j,rfl,hj⟩;refine ⟨_,rfl,?_⟩;conv=>whnf))|((try intro K hK);(refine NBytes.mk [tx.getD i 0] rfl ?_;conv=>whnf))|(refine sxO ?_;try clear hK K)|refine sxW ?_ ?_<;>intro _|refine sxV ?_ ?_|(intro K hK _;conv=>whnf)|(intro _;conv=>whnf)
    all_goals first
      | (exfalso;have:=hj.2 c4;omega)
      | exact ⟨fun b n e=>by rw [hnb] at e;injection e with e;injection e with e1 e2;subst e1 e2;exact ⟨rfl,MemFits.pre 1 rfl⟩,fun e=>by rw [hnb] at e;cases e⟩
      | skip
  · rw [if_neg c4] at hnb
    repeat' first|((try intro K hK);(with_reducible refine gC ?_);first|refine cP hl ?_|refine cP hd ?_|refine cP hp ?_|(refine NCall.pure hx ?_;rintro _ _ ⟨j,rfl,hj⟩;refine ⟨_,rfl,?_⟩;conv=>whnf))|((try intro K hK);(refine NBytes.mk [tx.getD i 0] rfl ?_;conv=>whnf))|(refine sxO ?_;try clear hK K)|refine sxW ?_ ?_<;>intro _|refine sxV ?_ ?_|(intro K hK _;conv=>whnf)|(intro _;conv=>whnf)
    all_goals first
      | (exfalso;exact c4 (hj.1 (by omega)))
      | exact ⟨fun b n e=>(by rw [hnb] at e;cases e),fun _=>⟨rfl,i,MemFits.drop [_] [_]⟩⟩
      | skip
end Go.Proofs.YtmehinfgdcmmjaaGreat
