import Derived.Test.YtaojbkphcnailaaDoorJ3
import Derived.Test.YtaojbkphcnailaaDoorProg
namespace Go.Proofs.YtaojbkphcnailaaDoor
open Go.Sx
set_option maxRecDepth 20000
set_option linter.unusedVariables false
namespace Ps
inductive R (α:Type) where
  | ok (x:α) (n:Nat)
  | bad (n:Nat)
def tk (l:List Lx.B) (i:Nat):Lx.B:=l[i]?.getD ⟨4,0,[]⟩
def is (l:List Lx.B) (i:Nat) (s:List UInt8):Bool:=(decide ((tk l i).k=1)||decide ((tk l i).k=3))&&decide ((tk l i).s=s)
def more {α:Type} (l:List Lx.B) (b:List UInt8) (one:Nat→R α):Nat→List α→Nat→R (List α)
  | 0,_,i=>.bad i
  | n+1,acc,i=>if is l i b=true then match one (i+1) with
      | .ok x j=>more l b one n (acc++[x]) j
      | .bad j=>.bad j
    else .ok acc i
def chain {α:Type} (l:List Lx.B) (b:List UInt8) (one:Nat→R α) (i:Nat):R (List α):=match one i with
  | .ok x j=>more l b one (l.length+1 - j) [x] j
  | .bad j=>.bad j
def wrap {α:Type} (f:List α→α):R (List α)→R α
  | .ok [x] j=>.ok x j
  | .ok xs j=>.ok (f xs) j
  | .bad j=>.bad j
def wTrue:List UInt8:=[116,114,117,101]
def wFalse:List UInt8:=[102,97,108,115,101]
def wNot:List UInt8:=[110,111,116]
def wOpen:List UInt8:=[40]
def wShut:List UInt8:=[41]
def wAnd:List UInt8:=[97,110,100]
def wOr:List UInt8:=[111,114]
def wEq:List UInt8:=[61]
def wSet:List UInt8:=[58,61]
def wDrop:List UInt8:=[100,114,111,112]
def wId:List UInt8:=[105,100]
def wWhen:List UInt8:=[119,104,101,110]
def wIf:List UInt8:=[105,102]
def wThen:List UInt8:=[116,104,101,110]
def wElse:List UInt8:=[101,108,115,101]
def wSemi:List UInt8:=[59]
def wBar:List UInt8:=[124]
def words:List (List UInt8):=[[115,114,99],[100,115,116],[107,105,110,100],[116,97,103],[112,111,114,116],[115,119,105,116,99,104]]
def field (l:List Lx.B) (i many:Nat):Option Nat:=if (tk l i).k=1 then (words.take many).findIdx? (fun w=>decide (w=(tk l i).s)) else none
def assign (l:List Lx.B) (many:Nat) (sign:List UInt8) (i:Nat):R (Int × Int):=match field l i many with
  | none=>.bad i
  | some f=>if is l (i+1) sign=true then (if (tk l (i+2)).k=2 then .ok ((f:Int),(tk l (i+2)).n) (i+3) else .bad (i+2)) else .bad (i+1)
def group (l:List Lx.B) (part:Nat→R Pd.T) (i:Nat):R Pd.T:=wrap (fun xs=>.mk 5 0 0 xs) (chain l wAnd part i)
def cond (l:List Lx.B) (part:Nat→R Pd.T) (i:Nat):R Pd.T:=wrap (fun xs=>.mk 6 0 0 xs) (chain l wOr (group l part) i)
def shut {α:Type} (l:List Lx.B):R α→R α
  | .ok x j=>if is l j wShut=true then .ok x (j+1) else .bad j
  | .bad j=>.bad j
def part (l:List Lx.B):Nat→Nat→R Pd.T
  | 0,i=>.bad i
  | n+1,i =>
    if is l i wTrue=true then .ok (.mk 1 0 0 []) (i+1)
    else if is l i wFalse=true then .ok (.mk 2 0 0 []) (i+1)
    else if is l i wNot=true then match part l n (i+1) with
      | .ok x j=>.ok (.mk 4 0 0 [x]) j
      | .bad j=>.bad j
    else if is l i wOpen=true then shut l (cond l (part l n) (i+1))
    else match assign l 6 wEq i with
      | .ok (f,v) j=>.ok (.mk 3 f v []) j
      | .bad j=>.bad j
def none26:Pd.T:=.mk 0 0 0 []
def row (l:List Lx.B) (step:Nat→R Po.T) (i:Nat):R Po.T:=wrap (fun xs=>.mk 3 none26 0 0 xs) (chain l wSemi step i)
def rows (l:List Lx.B) (step:Nat→R Po.T) (i:Nat):R Po.T:=wrap (fun xs=>.mk 4 none26 0 0 xs) (chain l wBar (row l step) i)
def choice (l:List Lx.B) (cnd:Nat→R Pd.T) (step:Nat→R Po.T) (i:Nat):R Po.T:=match cnd i with
  | .bad j=>.bad j
  | .ok c j=>if is l j wThen=true then match step (j+1) with
      | .bad j=>.bad j
      | .ok a j=>if is l j wElse=true then match step (j+1) with
          | .bad j=>.bad j
          | .ok b j=>.ok (.mk 5 c 0 0 [a,b]) j
        else .bad j
    else .bad j
def step (l:List Lx.B):Nat→Nat→R Po.T
  | 0,i=>.bad i
  | n+1,i =>
    if is l i wDrop=true then .ok (.mk 1 (.mk 2 0 0 []) 0 0 []) (i+1)
    else if is l i wId=true then .ok (.mk 1 (.mk 1 0 0 []) 0 0 []) (i+1)
    else if is l i wWhen=true then match cond l (part l l.length) (i+1) with
      | .ok c j=>.ok (.mk 1 c 0 0 []) j
      | .bad j=>.bad j
    else if is l i wIf=true then choice l (cond l (part l l.length)) (step l n) (i+1)
    else if is l i wOpen=true then shut l (rows l (step l n) (i+1))
    else match assign l 5 wSet i with
      | .ok (f,v) j=>.ok (.mk 2 none26 f v []) j
      | .bad j=>.bad j
def whole {α:Type} (l:List Lx.B):R α→R α
  | .ok x j=>if (tk l j).k=4 then .ok x 0 else .bad j
  | .bad j=>.bad j
end Ps
end Go.Proofs.YtaojbkphcnailaaDoor
namespace Go.Proofs.YtaojbkphcnailaaDoor
open Go.Sx
set_option maxRecDepth 20000
set_option linter.unusedSimpArgs false
set_option linter.unusedVariables false
set_option linter.unusedVariables false
namespace Lx
theorem tw_idx (p:UInt8→Bool):∀ (t:List UInt8),(∀ k,k<(t.takeWhile p).length→k<t.length∧p (t.getD k 0)=true)∧((t.takeWhile p).length=t.length∨((t.takeWhile p).length<t.length∧p (t.getD (t.takeWhile p).length 0)=false))
  | []=>⟨fun k h=>by simp at h,.inl rfl⟩
  | c::t=>by
    obtain ⟨h1,h2⟩:=tw_idx p t
    by_cases hc:p c=true
    · rw [List.takeWhile_cons_of_pos hc]
      refine ⟨fun k hk=>?_,?_⟩
      · cases k with
        | zero=>exact ⟨by simp,by simpa using hc⟩
        | succ k =>
          simp only [List.length_cons] at hk ⊢
          obtain ⟨a,b⟩:=h1 k (by omega)
          exact ⟨by omega,by simpa using b⟩
      · simp only [List.length_cons]
        rcases h2 with h | ⟨h,h'⟩
        · exact .inl (by omega)
        · exact .inr ⟨by omega,by simpa using h'⟩
    · rw [List.takeWhile_cons_of_neg hc]
      exact ⟨fun k hk=>by simp at hk,.inr ⟨by simp,by simpa using hc⟩⟩
theorem getD_drop (l:List UInt8) (i k:Nat):(l.drop i).getD k 0=l.getD (i+k) 0:=by simp [List.getD]
def wl (p:UInt8→Bool) (s:List UInt8) (i:Nat):Nat:=((s.drop i).takeWhile p).length
theorem wl_le (p:UInt8→Bool) (s:List UInt8) (i:Nat) (hi:i≤s.length):i+wl p s i≤s.length:=by
  have:=congrArg List.length (List.takeWhile_append_dropWhile (p:=p) (l:=s.drop i))
  simp only [List.length_append,List.length_drop] at this
  unfold wl
  omega
end Lx
def LB (a:Addr) (s:List UInt8) (i:Nat):Blk:=⟨a,[.str s,.int .i64 i],.var 118⟩
set_option maxHeartbeats 1000000 in
theorem while_c (f:FuncId) (p:UInt8→Bool) (hf:∀ c:UInt8,NCall Tryd.prog f [.int .u8 c.toNat] [] fun r _=>r = .bool (p c)) (a:Addr) (tx:List UInt8) (i:Nat) (hi:i≤tx.length) (hs:tx.length≤10000) :
    NCall Tryd.prog 98 [.ptr 0 a 0,.fn f [] []] [LB a tx i] fun r m=>r = .str ((tx.drop i).takeWhile p)∧m=[LB a tx (i+Lx.wl p tx i)]:=by
  obtain ⟨h1,h2⟩:=Lx.tw_idx p (tx.drop i)
  have hle:=Lx.wl_le p tx i hi
  have ht:(tx.drop i).take (Lx.wl p tx i)=(tx.drop i).takeWhile p:=(Lx.tw_take _ _).1
  have h1':∀ j,i≤j→j<i+Lx.wl p tx i→p (tx.getD j 0)=true:=fun j hj hj2=>by
    have:=(h1 (j - i) (by unfold Lx.wl at hj2;omega)).2
    rw [Lx.getD_drop,show i+(j - i)=j by omega] at this
    exact this
  have h2':i+Lx.wl p tx i=tx.length∨(i+Lx.wl p tx i<tx.length∧p (tx.getD (i+Lx.wl p tx i) 0)=false):=by
    rcases h2 with h | ⟨h,h'⟩
    · left;rw [List.length_drop] at h;unfold Lx.wl;omega
    · right
      rw [List.length_drop] at h
      rw [Lx.getD_drop] at h'
      exact ⟨by unfold Lx.wl;omega,h'⟩
  clear h1 h2
  generalize Lx.wl p tx i=w at *
  generalize (tx.drop i).takeWhile p=res at *
  refine ncall_of Tryd.func98 rfl (by decide) ?_
  unfold LB
  (repeat' (first|(with_reducible first|(refine hK _ _ ?_;clear hK K)|(refine hK _ ?_;clear hK K))|((with_reducible refine z25 ?_);intro K hK;(conv=>whnf))|(with_reducible refine z0 ?_)|((first|(with_reducible refine NN.a5 ?_)|((with_reducible refine NH.mk ?s ?_);case s=>(and_intros<;>with_reducible rfl)))<;>(conv=>whnf))|(with_reducible first|refine z3 ?_|refine z4 ?_|refine z5 ?_|refine z1 ?_|refine z2 ?_)|((with_reducible refine gF ?_);(refine z33 rfl ?_;intro K hK;(conv=>whnf)))))
  refine st_auto (α:=Nat) (fun j=>i≤j∧j≤i+w) (fun j=>[.keep,.keep,.keep,.keep,.keep,.keep,.keep,.keep,.keep,.keep,.drop,.drop,.drop,.drop,.drop,.drop,.drop,.drop,.drop,.drop,.drop,.drop,.drop,.drop,.drop,.drop,.drop,.drop,.drop,.drop,.drop,.drop,.drop,.drop,.drop,.drop,.drop,.drop,.drop,.drop,.keep,.keep,.keep,.keep,.keep,.keep,.keep,.keep,.keep,.keep]) (fun j=>[.cells [.str tx,.int .i64 j]]) (fun j=>i+w - j) i ⟨Nat.le_refl _,by omega⟩ ?_ ?_ ?_
  · repeat (first|exact FitsSl.nil|refine FitsSl.any ?_|refine FitsSl.cons (Fit1.int (by first | rfl | omega)) ?_|refine FitsSl.cons (Fit1.str rfl) ?_|refine FitsSl.cons (Fit1.same (by intro h;cases h) (by with_reducible rfl)) ?_)
  · exact MemFits.eq rfl
  (intro j ⟨hj1,hj2⟩;intro K hK;(conv=>whnf);refine hK _ _ ?_;clear hK K)
  by_cases hlt:j<i+w
  · have hp:=h1' j hj1 hlt
    have hc:=hf (tx.getD j 0)
    rw [hp] at hc
    (repeat' (first|(with_reducible first|(refine hK _ _ ?_;clear hK K)|(refine hA ?_;clear hA hB A B))|((with_reducible refine z25 ?_);intro K hK;(conv=>whnf))|(with_reducible refine z0 ?_)|((with_reducible first|refine z27 ?_|refine z28 ?_);intro K hK;(conv=>whnf))|(with_reducible refine z24 ?_)|((first|((with_reducible refine NV.i64 ?s ?_);case s=>omega)|((with_reducible refine NIf.decY ?s ?_);case s=>omega)|((with_reducible refine NIf.yes ?s ?_);case s=>rfl)|(with_reducible first|refine NN.cast ?_|refine NN.a5 ?_)|((with_reducible refine NH.mk ?s ?_);case s=>(and_intros<;>first|with_reducible rfl|((with_reducible refine gOnes ?_);rfl)|((with_reducible refine gLen ?_);rfl)|omega))|((with_reducible refine NCallQ.isF f ?_);refine NCallQ.pureEq (hc) ?_))<;>(conv=>whnf))|((with_reducible refine gX ?_);(first|(with_reducible first|refine z3 ?_|refine z4 ?_|refine z5 ?_|refine z6 ?_)|((with_reducible refine z29 ?_);intro A B hA hB;(conv=>whnf))|refine z34 (by kernel_rfl) (by kernel_rfl) ?_))|(with_reducible first|refine z1 ?_|refine z2 ?_|refine z9 ?_)))
    refine st_round (j+1) ⟨by omega,by omega⟩ (by omega) ?_ (MemFits.eq rfl)
    repeat (first|exact FitsSl.nil|refine FitsSl.any ?_|refine FitsSl.cons (Fit1.int (by first | rfl | omega)) ?_|refine FitsSl.cons (Fit1.str rfl) ?_|refine FitsSl.cons (Fit1.same (by intro h;cases h) (by with_reducible rfl)) ?_)
  · have e:j=i+w:=by omega
    subst e
    have e2:i+w - i=w:=by omega
    have hns:(tx.drop i).take (i+w - i)=res:=by rw [e2,ht]
    rcases h2' with h | ⟨h,hp⟩
    · (repeat' (first|(with_reducible first|(refine hK _ _ ?_;clear hK K)|(refine hB ?_;clear hA hB A B)|(refine hK _ ?_;clear hK K))|((with_reducible first|refine z27 ?_|refine z28 ?_);intro K hK;(conv=>whnf))|(with_reducible refine z24 ?_)|((first|((with_reducible refine NIf.decN ?s ?_);case s=>omega)|((with_reducible refine NIf.no ?s ?_);case s=>rfl)|(with_reducible first|refine NN.cast ?_|refine NN.a5 ?_)|((with_reducible refine NH.mk ?s ?_);case s=>(and_intros<;>first|with_reducible rfl|omega))|(with_reducible refine NS.eq (hns) ?_))<;>(conv=>whnf))|((with_reducible refine gX ?_);(first|(with_reducible first|refine z3 ?_|refine z7 ?_|refine z8 ?_)|((with_reducible refine z29 ?_);intro A B hA hB;(conv=>whnf))|refine z34 (by kernel_rfl) (by kernel_rfl) ?_))|(with_reducible first|refine z1 ?_|refine z2 ?_|refine z10 ?_|refine z11 ?_|refine z19 ?_)|((with_reducible refine gR ?_);(refine z31 rfl ?_;intro K hK;(conv=>whnf)))))
      all_goals exact ⟨rfl,rfl⟩
    · have hc:=hf (tx.getD (i+w) 0)
      rw [hp] at hc
      (repeat' (first|(with_reducible first|(refine hK _ _ ?_;clear hK K)|(refine hB ?_;clear hA hB A B)|(refine hK _ ?_;clear hK K))|((with_reducible first|refine z27 ?_|refine z28 ?_);intro K hK;(conv=>whnf))|(with_reducible refine z24 ?_)|((first|((with_reducible refine NIf.decY ?s ?_);case s=>omega)|((with_reducible refine NIf.no ?s ?_);case s=>rfl)|(with_reducible first|refine NN.cast ?_|refine NN.a5 ?_)|((with_reducible refine NH.mk ?s ?_);case s=>(and_intros<;>first|with_reducible rfl|omega))|((with_reducible refine NCallQ.isF f ?_);refine NCallQ.pureEq (hc) ?_)|(with_reducible refine NS.eq (hns) ?_))<;>(conv=>whnf))|((with_reducible refine gX ?_);(first|(with_reducible first|refine z3 ?_|refine z7 ?_|refine z8 ?_)|((with_reducible refine z29 ?_);intro A B hA hB;(conv=>whnf))|refine z34 (by kernel_rfl) (by kernel_rfl) ?_))|(with_reducible first|refine z1 ?_|refine z2 ?_|refine z10 ?_|refine z11 ?_|refine z19 ?_)|((with_reducible refine gR ?_);(refine z31 rfl ?_;intro K hK;(conv=>whnf)))))
      all_goals exact ⟨rfl,rfl⟩
theorem boolT {p:Prop} {_:Decidable p} (h:p):AV.bool true = .bool (decide p):=by rw [decide_eq_true h]
theorem boolF {p:Prop} {_:Decidable p} (h:¬ p):AV.bool false = .bool (decide p):=by rw [decide_eq_false h]
theorem boolIff {x:Bool} {p:Prop} {_:Decidable p} (h:x=true↔p):AV.bool x = .bool (decide p):=by
  cases x with
  | true=>exact boolT (h.1 rfl)
  | false=>exact boolF fun hp=>by cases h.2 hp
theorem sp_dec (c:UInt8):Lx.isSp c=decide (c.toNat=32∨c.toNat=9∨c.toNat=10):=by
  rw [Bool.eq_iff_iff];unfold Lx.isSp
  simp only [Bool.or_eq_true,beq_iff_eq,decide_eq_true_eq,← UInt8.toNat_inj,or_assoc]
  rfl
theorem l_dec (c:UInt8):Lx.isL c=decide (97≤c.toNat∧c.toNat≤122):=by
  rw [Bool.eq_iff_iff];unfold Lx.isL
  simp only [Bool.and_eq_true,decide_eq_true_eq]
theorem d_dec (c:UInt8):Lx.isD c=decide (48≤c.toNat∧c.toNat≤57):=by
  rw [Bool.eq_iff_iff];unfold Lx.isD
  simp only [Bool.and_eq_true,decide_eq_true_eq]
theorem nl_dec (c:UInt8):Lx.notNl c=decide (c.toNat≠10):=by
  rw [Bool.eq_iff_iff];unfold Lx.notNl
  simp only [Bool.not_eq_true',beq_eq_false_iff_ne,decide_eq_true_eq,ne_eq,← UInt8.toNat_inj]
  rfl
theorem space_c (c:UInt8):NCall Tryd.prog 99 [.int .u8 c.toNat] [] fun r _=>r = .bool (Lx.isSp c):=by
  rw [sp_dec]
  refine ncall_of Tryd.func99 rfl (by decide) ?_
  (repeat' (first|(with_reducible first|(refine hK _ _ ?_;clear hK K)|(refine hK _ ?_;clear hK K))|((with_reducible first|refine z25 ?_|refine z26 ?_);intro K hK;(conv=>whnf))|(with_reducible refine z0 ?_)|((first|((with_reducible refine NIf.decY ?s ?_);case s=>assumption)|((with_reducible refine NIf.decN ?s ?_);case s=>assumption)|((with_reducible refine NIf.yes ?s ?_);case s=>rfl)|(with_reducible refine NIf.dec (fun _=>?_) (fun _=>?_)))<;>(conv=>whnf))|(with_reducible first|refine z3 ?_|refine z4 ?_|refine z8 ?_|refine z1 ?_|refine z2 ?_)|((with_reducible refine gR ?_);(refine z31 rfl ?_;intro K hK;(conv=>whnf)))|((with_reducible refine gF ?_);(refine z33 rfl ?_;intro K hK;(conv=>whnf)))))
  all_goals first
    | exact boolT (by omega)
    | exact boolF (by omega)
    | exact boolIff (by simp only [decide_eq_true_eq];omega)
theorem letter_c (c:UInt8):NCall Tryd.prog 101 [.int .u8 c.toNat] [] fun r _=>r = .bool (Lx.isL c):=by
  rw [l_dec]
  refine ncall_of Tryd.func101 rfl (by decide) ?_
  (repeat' (first|(with_reducible first|(refine hK _ _ ?_;clear hK K)|(refine hK _ ?_;clear hK K))|((with_reducible first|refine z25 ?_|refine z26 ?_);intro K hK;(conv=>whnf))|(with_reducible refine z0 ?_)|((first|((with_reducible refine NIf.decY ?s ?_);case s=>assumption)|((with_reducible refine NIf.decN ?s ?_);case s=>assumption)|(with_reducible refine NIf.dec (fun _=>?_) (fun _=>?_)))<;>(conv=>whnf))|(with_reducible first|refine z3 ?_|refine z4 ?_|refine z8 ?_|refine z1 ?_|refine z2 ?_)|((with_reducible refine gR ?_);(refine z31 rfl ?_;intro K hK;(conv=>whnf)))|((with_reducible refine gF ?_);(refine z33 rfl ?_;intro K hK;(conv=>whnf)))))
  all_goals first
    | exact boolT (by omega)
    | exact boolF (by omega)
    | exact boolIff (by simp only [decide_eq_true_eq];omega)
theorem digit_c (c:UInt8):NCall Tryd.prog 102 [.int .u8 c.toNat] [] fun r _=>r = .bool (Lx.isD c):=by
  rw [d_dec]
  refine ncall_of Tryd.func102 rfl (by decide) ?_
  (repeat' (first|(with_reducible first|(refine hK _ _ ?_;clear hK K)|(refine hK _ ?_;clear hK K))|((with_reducible first|refine z25 ?_|refine z26 ?_);intro K hK;(conv=>whnf))|(with_reducible refine z0 ?_)|((first|((with_reducible refine NIf.decY ?s ?_);case s=>assumption)|((with_reducible refine NIf.decN ?s ?_);case s=>assumption)|(with_reducible refine NIf.dec (fun _=>?_) (fun _=>?_)))<;>(conv=>whnf))|(with_reducible first|refine z3 ?_|refine z4 ?_|refine z8 ?_|refine z1 ?_|refine z2 ?_)|((with_reducible refine gR ?_);(refine z31 rfl ?_;intro K hK;(conv=>whnf)))|((with_reducible refine gF ?_);(refine z33 rfl ?_;intro K hK;(conv=>whnf)))))
  all_goals first
    | exact boolT (by omega)
    | exact boolF (by omega)
    | exact boolIff (by simp only [decide_eq_true_eq];omega)
theorem notnl_c (c:UInt8):NCall Tryd.prog 100 [.int .u8 c.toNat] [] fun r _=>r = .bool (Lx.notNl c):=by
  rw [nl_dec]
  refine ncall_of Tryd.func100 rfl (by decide) ?_
  (repeat' (first|(with_reducible first|(refine hK _ _ ?_;clear hK K)|(refine hK _ ?_;clear hK K))|((with_reducible refine z25 ?_);intro K hK;(conv=>whnf))|(with_reducible first|refine z0 ?_|refine z3 ?_|refine z4 ?_|refine z8 ?_|refine z1 ?_|refine z2 ?_)|((with_reducible refine gR ?_);(refine z31 rfl ?_;intro K hK;(conv=>whnf)))|((with_reducible refine gF ?_);(refine z33 rfl ?_;intro K hK;(conv=>whnf)))))
  all_goals first
    | exact boolT (by omega)
    | exact boolF (by omega)
    | exact boolIff (by simp only [Bool.not_eq_true',decide_eq_false_iff_not];omega)
end Go.Proofs.YtaojbkphcnailaaDoor
