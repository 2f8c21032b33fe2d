/- A part of the proof. -/
import Derived.Test.YtmehinfgdcmmjaaGreatDoorTSxC
import Derived.RangeFuncNested
import Derived.RangeFuncLeaves
import Derived.TacticsIn
import Derived.RangeFuncRecord
import Derived.Test.YtmehinfgdcmmjaaGreatDoorTJ8
import Derived.Test.YtmehinfgdcmmjaaGreatDoorTJ3
namespace Go.Sx
open Go.RowKit
section
variable {P:Program}
theorem gn {sl:List AV} {m:List Blk} {op:Op} {K:AV→List Blk→Prop} (h:opM P sl m op K):∀ c,op≠.defer c:=by
 rintro c rfl
 simp only [opM,opV] at h
theorem i1 {lp n:Nat} {o:Oper} {a:Act} {w:World} {next:Act→World→Prop} {Q:Exit→Act→World→Prop} (hd:∀ c,o.op≠.defer c) (h:o.wp P a w next Q):o.wpIn (Fence.wide.inRound lp) n P a w next Q:=by
 refine ⟨fun _ _=>trivial,?_⟩
 rw [Oper.semAt_eq _ _ _ hd]
 unfold Oper.wp at h
 generalize (execOp a.eval o).run P w=r at *
 cases r with
 | ok x w' =>
  cases x with
  | value v=>exact h
  | skip=>exact h
  | defer d=>exact h
  | enter f args=>exact ⟨fun h=>by simp [Fence.wide] at h,CallsIn.inRound lp (callsIn_wide.2 h)⟩
  | row r args=>exact ⟨fun h=>by simp [Fence.wide] at h,fun c cs _=>let ⟨v,w',r,s⟩:=h c cs;⟨v,w',r,stepsIn_wide.2 s⟩⟩
  | _=>exact h.elim
 | halt hl w' =>
  cases hl with
  | panic v=>exact h
  | _=>exact h.elim
theorem qB {lp n:Nat} {w0:World} {S:Own} {ops:Array Oper} {l:List Oper} {sl:List AV} {m:List Blk} {k:List AV→List Blk→Prop} (h:opsK P ops l sl m k) {a:Act} {w:World} (hsim:Sim w0 S sl m a w)
  {Q:Exit→Act→World→Prop} (hk:∀ sl m a w,k sl m→Sim w0 S sl m a w→Q .normal a w):wpListIn (Fence.wide.inRound lp) n P ops Q l a w:=by
 induction l generalizing sl m a w with
 | nil=>exact hk _ _ _ _ h hsim
 | cons o rest ih =>
  simp only [opsK] at h
  have run:(opM P sl m o.op fun v m'=>dstK sl o.dst v fun sl'=>opsK P ops rest sl' m' k)→o.wpIn (Fence.wide.inRound lp) n P a w (wpListIn (Fence.wide.inRound lp) n P ops Q rest) Q:=fun h =>
   i1 (gn h) <| cM hsim.slots hsim.mem hsim.fr hsim.fresh h fun v m' w' hl=>by
    obtain ⟨sl',h1,h2⟩:=aO hl.k hsim.slots
    exact ih h1 (hsim.step h2 hl.mem hl.fr hl.fresh)
  unfold wpListIn
  split at h
  ·rename_i hg
   rw [if_pos (by simp [Region.wanted,hg])]
   exact run h
  ·rename_i j want hg
   rcases bH h hsim.slots hg with ⟨h1,h2⟩ | ⟨h1,h2⟩
   ·rw [if_pos h1]
    exact run h2
   ·rw [if_neg (by simp [h1])]
    obtain ⟨sl',h3,h4⟩:=aO h2 hsim.slots
    exact ⟨fun _ _=>trivial,ih h3 (hsim.step h4 hsim.mem hsim.fr hsim.fresh)⟩
def gZ:Code→Bool
 | .skip=>true
 | .region _ _ draw=>!draw
 | .seq a b=>gZ a&&gZ b
 | .cond _ a b=>gZ a&&gZ b
 | .block _ c=>gZ c
 | .exit _=>true
 | .ret=>true
 | .label _=>true
 | _=>false
theorem pR {lp n:Nat} {w0:World} {S:Own} {c:Code}:∀ {sl:List AV} {m:List Blk} {Q:Post},gZ c=true→codeK P c sl m Q→∀ {a:Act} {w:World},Sim w0 S sl m a w →
  c.wpIn (Fence.wide.inRound lp) n P (fun e a w=>∃ sl m,Q e sl m∧Sim w0 S sl m a w) a w:=by
 induction c with
 | skip=>intro sl m Q _ h a w hs;exact wpIn_skip ⟨_,_,h,hs⟩
 | region id ops draw =>
  intro sl m Q hf h a w hs
  cases draw with
  | false=>exact wpIn_region_list (qB h hs fun sl m a w h1 h2=>⟨sl,m,h1,h2⟩)
  | true=>cases hf
 | seq x y ihx ihy =>
  intro sl m Q hf h a w hs
  simp only [gZ,Bool.and_eq_true] at hf
  refine wpIn_seq (wpIn_mono (ihx hf.1 h hs) fun e a w hq=>?_)
  obtain ⟨sl',m',h1,h2⟩:=hq
  cases e with
  | normal=>exact ihy hf.2 h1 h2
  | _=>exact ⟨sl',m',h1,h2⟩
 | cond c x y ihx ihy =>
  intro sl m Q hf h a w hs
  simp only [gZ,Bool.and_eq_true] at hf
  obtain ⟨v,h1,h2⟩:=aG hs.slots h
  cases v<;>try exact h1.elim
  rename_i t
  simp only [bo] at h1
  refine wpIn_cond_split (t:=t) (by rw [h2];rfl) (fun ht=>ihx hf.1 (h1.1 ht) hs) (fun ht=>ihy hf.2 (h1.2 ht) hs)
 | block id c ih =>
  intro sl m Q hf h a w hs
  refine wpIn_block (wpIn_mono (ih hf h hs) fun e a w hq=>?_)
  obtain ⟨sl',m',h1,h2⟩:=hq
  cases e with
  | exit j =>
   simp only [Exit.inBlock]
   split at h1
   ·rename_i hj;injection hj with hj;subst hj
    split at h1
    ·rename_i heq _;rw [if_pos heq];exact ⟨sl',m',h1,h2⟩
    ·rename_i heq _;rw [if_neg heq];exact ⟨sl',m',h1,h2⟩
   ·rename_i hne;exact (hne _ rfl).elim
  | _=>exact ⟨sl',m',h1,h2⟩
 | exit id=>intro sl m Q _ h a w hs;exact wpIn_exit ⟨_,_,h,hs⟩
 | label l=>intro sl m Q _ h a w hs;exact wpIn_label ⟨_,_,h,hs⟩
 | ret=>intro sl m Q _ h a w hs;exact wpIn_ret ⟨_,_,h,hs⟩
 | _=>intro sl m Q hf;cases hf
def mT (m:List Blk) (w:World):World→World→Prop:=fun A B=>A.heap.size≤B.heap.size∧(∀ b,b<w.heap.size→¬ wrs m b→B.heap[b]?=A.heap[b]?)∧∀ (r:Nat) (o:Obj),w.heap.size≤r→A.heap[r]?=some o→o.isWalk=true→B.heap[r]?=some o
def dA (m:List Blk) (k:Blk):Prop :=
 match k.kind with
 | .var _=>True
 | .row ..=>True
 | .obj _=>False
 | .res _=>False
 | _=>k∈m
theorem gY {m m1:List Blk} {w W:World} (hm:Qx m w) (h1:Qx m1 W) (hp:∀ k∈m1,dA m k) {k:Blk} (hk:k∈m1) {b:Nat} (hb:k.foot b):b<w.heap.size∨∃ o:Obj,W.heap[b]?=some o∧o.isCells=true:=by
 have h2:=h1.holds k hk
 have h3:=hp k hk
 obtain ⟨a,cs,kind⟩:=k
 cases kind with
 | var t =>
  right
  simp only [Blk.foot,Blk.bn,Option.some.injEq] at hb
  subst hb
  exact ⟨_,h2.2.2,rfl⟩
 | row v t sz n =>
  right
  simp only [Blk.foot,Blk.bn] at hb
  rcases h2.1.2 with ⟨rfl,_⟩ | ⟨g,cap,cur,rfl,_,hg,_⟩
  ·simp [Value.ownBlock] at hb
  ·simp only [Value.ownBlock,Option.some.injEq] at hb
   subst hb
   exact ⟨_,hg,rfl⟩
 | ro v sz n=>exact .inl ((hm.holds _ h3).lt hb)
 | heap F=>exact .inl ((hm.holds _ h3).lt hb)
 | obj o=>exact h3.elim
 | res R=>exact h3.elim
theorem nt {m:List Blk} {W:World} (h1:Qx m W) (hno:∀ k∈m,(∀ o,k.kind≠.obj o)∧∀ R,k.kind≠.res R) {b:Nat} (hb:wrs m b):∃ o:Obj,W.heap[b]?=some o∧o.isCells=true:=by
 obtain ⟨k,hk,hw,hbn⟩:=hb
 have h2:=h1.holds k hk
 obtain ⟨a,cs,kind⟩:=k
 cases kind with
 | var t =>
  simp only [Blk.foot,Blk.bn,Option.some.injEq] at hbn
  subst hbn
  exact ⟨_,h2.2.2,rfl⟩
 | row v t sz n =>
  simp only [Blk.foot,Blk.bn] at hbn
  rcases h2.1.2 with ⟨rfl,_⟩ | ⟨g,cap,cur,rfl,_,hg,_⟩
  ·simp [Value.ownBlock] at hbn
  ·simp only [Value.ownBlock,Option.some.injEq] at hbn
   subst hbn
   exact ⟨_,hg,rfl⟩
 | ro v sz n=>cases hw
 | heap F=>cases hw
 | obj o=>exact ((hno _ hk).1 o rfl).elim
 | res R=>exact ((hno _ hk).2 R rfl).elim
def mQ (m:List Blk) (w:World) (mm:List Blk→Prop) (W:World):Prop:=∃ m1,mm m1∧(∀ k∈m1,dA m k)∧Qx m1 W∧Fr (wrs m) w W∧Fresh (own m) w m1
theorem kq {β:Type} {m:List Blk} {w:World} (hm:Qx m w) (mm:β→List Blk→Prop):OwnFrom w.heap.size fun x W=>mQ m w (mm x) W:=by
 rintro s W W' row ⟨m1,h1,h2,h3,h4,h5⟩ hg hr
 refine ⟨m1,h1,h2,h3.keep hg.size fun k hk b hb=>hg.block b ((h3.holds k hk).lt hb) fun e=>?_,⟨hg.os.trans h4.os,hg.tape.trans h4.tape,hg.output.trans h4.output,Nat.le_trans h4.size hg.size,fun k hk hs=>?_⟩,h5⟩
 ·obtain ⟨h6,o,h7,h8⟩:=hr b e.symm
  rcases gY hm h3 h2 hk hb with h | ⟨o',h9,h10⟩
  ·omega
  ·rw [h7] at h9;injection h9 with h9;subst h9;rw [h8] at h10;cases h10
 ·refine (hg.block k (Nat.lt_of_lt_of_le hk h4.size) fun e=>?_).trans (h4.block k hk hs)
  obtain ⟨h6,_⟩:=hr k e.symm
  omega
theorem Qx.and_one {m:List Blk} {W:World} (h:Qx m W) {b:Nat} {cs:List AV} {t:TypeId} (hb:W.heap[b]?=some (.cells (denL cs).toArray t (0,0))) (hf:¬ foots m b):Qx (m++[⟨⟨b,0,none⟩,cs,.var t⟩]) W:=by
 refine ⟨fun k hk=>?_,List.pairwise_append.2 ⟨h.sep,by simp,fun x hx y hy=>?_⟩⟩
 ·rcases List.mem_append.1 hk with hk | hk
  ·exact h.holds k hk
  ·rw [List.mem_singleton] at hk
   subst hk
   exact ⟨rfl,rfl,hb⟩
 ·rw [List.mem_singleton] at hy
  subst hy
  intro _ b' h1 h2
  simp only [Blk.foot,Blk.bn,Option.some.injEq] at h2
  subst h2
  exact hf ⟨x,hx,h1⟩
theorem fx {lp n:Nat} {m m1:List Blk} {w W:World} {c:Code} (hf:gZ c=true) {sl:List AV} {a:Act} (hs:Qy sl a.tmps) (hd:a.defers=[]) (hsz:w.heap.size≤W.heap.size) (h3:Qx m1 W) (hno:∀ k∈m1,(∀ o,k.kind≠.obj o)∧∀ R,k.kind≠.res R) (h4:Fr (wrs m) w W) (h5:Fresh (own m) w m1) {Q:Post} (h:codeK P c sl m1 Q)
  {R:Exit→Act→World→Prop} (hR:∀ e a' sl' m2 W',Q e sl' m2→Fresh (own m1) W m2→Qy sl' a'.tmps→a'.defers=[]→Qx m2 W'→KeepsFrom w.heap.size W W'→mT m w W W'→Fr (wrs m) w W'→Fresh (own m) w m2→W.heap.size≤W'.heap.size→R e a' W') :
  c.wpIn (Fence.wide.inRound lp) n P R a W:=by
 refine wpIn_mono (pR (w0:=W) (S:=own m1) hf h ⟨hs,hd,h3,Fr.refl _ W,fun b hb=>.inl hb,fun b hb=>.inl hb⟩) fun e a' W' hq=>?_
 obtain ⟨sl',m2,h6,h8⟩:=hq
 have hwr:∀ b,wrs m1 b→wrs m b∨w.heap.size≤b:=h5.1
 have hkf:KeepsFrom w.heap.size W W':=⟨h8.fr.size,fun k o _ hk hc=>by
  refine (h8.fr.block k (Array.getElem?_eq_some_iff.1 hk).1 fun hw=>?_).trans hk
  obtain ⟨o',h9,h10⟩:=nt h3 hno hw
  rw [hk] at h9;injection h9 with h9;subst h9;rw [hc] at h10;cases h10⟩
 refine hR e a' sl' m2 W' h6 h8.fresh h8.slots h8.defers h8.mem hkf ⟨h8.fr.size,fun b hb hn=>?_,fun r o hr hro ho=>hkf.same r o hr hro (by cases o<;>first | rfl | cases ho)⟩ ?_ ?_ h8.fr.size
 ·exact h8.fr.block b (Nat.lt_of_lt_of_le hb hsz) fun hw=>(hwr b hw).elim hn fun h=>by omega
 ·exact ⟨h8.fr.os.trans h4.os,h8.fr.tape.trans h4.tape,h8.fr.output.trans h4.output,Nat.le_trans hsz h8.fr.size,fun k hk hs=>(h8.fr.block k (Nat.lt_of_lt_of_le hk hsz) fun hw=>(hwr k hw).elim hs fun h=>by omega).trans (h4.block k hk hs)⟩
 ·refine ⟨fun b hb=>?_,fun b hb=>?_⟩
  ·rcases h8.fresh.1 b hb with h | h
   ·exact hwr b h
   ·exact .inr (Nat.le_trans hsz h)
  ·rcases h8.fresh.2 b hb with h | h
   ·exact h5.2 b h
   ·exact .inr (Nat.le_trans hsz h)
def pj (P:Program) (gf:Nat) (lb:List AV) (m:List Blk) {α:Type} (encs:α→List AV) (S:List α→Prop) (N:Nat):Prop :=
 ∀ w,Qx m w→SeqStopsK Fence.wide 0 P gf (denL lb).toArray (fun x=>(denL (encs x)).toArray) (mT m w) S (fun _=>True) N w
theorem Qx.still {m1:List Blk} {F:Heap} {w A B:World} (hm:Qx m1 w) (hF:hpB F∈m1) (h:Qx [hpB F] A) (hs:mT m1 w A B):Qx [hpB F] B:=by
 refine h.keep hs.1 fun k hk b hb=>?_
 rw [List.mem_singleton] at hk
 subst hk
 refine hs.2.1 b ((hm.holds _ hF).lt hb) fun ⟨k',hk',hw,hbn⟩=>?_
 obtain ⟨i,hi⟩:=List.getElem?_of_mem hF
 obtain ⟨j,hj⟩:=List.getElem?_of_mem hk'
 have hne:i≠j:=fun e=>by
  subst e
  rw [hi] at hj
  injection hj with hj
  subst hj
  cases hw
 exact bc hm.sep hne hi hj (.inr hw) b hb hbn
theorem Qx.one_of {m1:List Blk} {F:Heap} {w:World} (hm:Qx m1 w) (hF:hpB F∈m1):Qx [hpB F] w :=
 ⟨fun k hk=>by rw [List.mem_singleton] at hk;subst hk;exact hm.holds _ hF,by simp⟩
theorem jv {n:Nat} {o:Oper} {a:Go.Act} {w:World} {next:Go.Act→World→Prop} {Q:Exit→Go.Act→World→Prop} (h:o.wp P a w next Q):o.wpIn Fence.wide n P a w next Q:=by
 refine ⟨fun _ _=>trivial,?_⟩
 rw [show o.semAt Fence.wide.round a.eval=execOp a.eval o from Oper.semAt_none _ _]
 unfold Oper.wp at h
 generalize (execOp a.eval o).run P w=r at *
 cases r with
 | ok x w' =>
  cases x with
  | value v=>exact h
  | skip=>exact h
  | defer d=>exact h
  | enter f args=>exact ⟨fun h=>by simp [Fence.wide] at h,callsIn_wide.2 h⟩
  | row r args=>exact ⟨fun h=>by simp [Fence.wide] at h,fun c cs _=>let ⟨v,w',r,s⟩:=h c cs;⟨v,w',r,stepsIn_wide.2 s⟩⟩
  | _=>exact h.elim
 | halt hl w' =>
  cases hl with
  | panic v=>exact h
  | _=>exact h.elim
theorem iC {n:Nat} {w0:World} {S:Own} {ops:Array Oper} {l l2:List Oper} {sl:List AV} {m:List Blk} {k:List AV→List Blk→Prop} (h:opsK P ops l sl m k) {a:Go.Act} {w:World} (hsim:Sim w0 S sl m a w)
  {Q:Exit→Go.Act→World→Prop} (hk:∀ sl m a w,k sl m→Sim w0 S sl m a w→wpListIn Fence.wide n P ops Q l2 a w):wpListIn Fence.wide n P ops Q (l++l2) a w:=by
 induction l generalizing sl m a w with
 | nil=>exact hk _ _ _ _ h hsim
 | cons o rest ih =>
  simp only [opsK] at h
  have run:(opM P sl m o.op fun v m'=>dstK sl o.dst v fun sl'=>opsK P ops rest sl' m' k)→o.wpIn Fence.wide n P a w (wpListIn Fence.wide n P ops Q (rest++l2)) Q:=fun h =>
   jv <| cM hsim.slots hsim.mem hsim.fr hsim.fresh h fun v m' w' hl=>by
    obtain ⟨sl',h1,h2⟩:=aO hl.k hsim.slots
    exact ih h1 (hsim.step h2 hl.mem hl.fr hl.fresh)
  rw [List.cons_append]
  unfold wpListIn
  split at h
  ·rename_i hg
   rw [if_pos (by simp [Region.wanted,hg])]
   exact run h
  ·rename_i j want hg
   rcases bH h hsim.slots hg with ⟨h1,h2⟩ | ⟨h1,h2⟩
   ·rw [if_pos h1]
    exact run h2
   ·rw [if_neg (by simp [h1])]
    obtain ⟨sl',h3,h4⟩:=aO h2 hsim.slots
    exact ⟨fun _ _=>trivial,ih h3 (hsim.step h4 hsim.mem hsim.fr hsim.fresh)⟩
theorem ju {n:Nat} {w0:World} {S:Own} {ops:Array Oper} {l:List Oper} {sl:List AV} {m:List Blk} {k:List AV→List Blk→Prop} (h:opsK P ops l sl m k) {a:Go.Act} {w:World} (hsim:Sim w0 S sl m a w)
  {Q:Exit→Go.Act→World→Prop} (hk:∀ sl m a w,k sl m→Sim w0 S sl m a w→Q .normal a w):wpListIn Fence.wide n P ops Q l a w:=by
 have:=iC (n:=n) (l2:=[]) (Q:=Q) h hsim hk
 rwa [List.append_nil] at this
theorem kx {n lp:Nat} {ops:Array Oper} {o:Oper} {rest:List Oper} {f:Operand} {ars:Array Operand} {tys:Array TypeId} (hop:o.op = .call { callee:=.value f,args:=ars,argTypes:=tys }) (hg:o.guard=none) {a:Go.Act} {W:World} {vs:Array Value}
  (hf:a.eval f = .func (.yield lp) #[] #[]) (has:ars.map a.eval=vs) {Q:Exit→Go.Act→World→Prop} {R:Ending→World→Prop} (hY:YieldAt Fence.wide (n - 1) P lp vs W R)
  (hR:∀ e w',R e w'→∃ v,e = .returned v∧wpListIn Fence.wide n P ops Q rest (a.put o.dst v) w'):wpListIn Fence.wide n P ops Q (o::rest) a W:=by
 unfold wpListIn
 rw [if_pos (by simp [Region.wanted,hg])]
 refine ⟨fun _ _=>trivial,?_⟩
 rw [show o.semAt Fence.wide.round a.eval=execOp a.eval o from Oper.semAt_none _ _]
 obtain ⟨fn,tmps,assign,body,hy,hround⟩:=hY
 have e:(execOp a.eval o).run P W = .ok (.round lp fn tmps assign body) W:=by
  simp only [execOp,hop,resolve,hf,Deferred.ofValue,has,Sem.run_bind,Sem.run_pure,Result.andThen_ok,invoke]
  simpa using hy
 rw [e]
 refine ⟨fun h=>by simp [Fence.wide] at h,hround.mono fun e w' hr=>?_⟩
 obtain ⟨v,rfl,h⟩:=hR e w' hr
 exact h
def jn:List AV→List Tmp→List AV→List AV
 | sl,p::ps,v::vs=>jn (sl.set p v) ps vs
 | sl,_,_=>sl
theorem mB:∀ {ps:List Tmp} {vs:List AV} {sl:List AV} {tmps:Array Value},Qy sl tmps→Qy (jn sl ps vs) ((ps.zip (denL vs)).foldl (fun t (p,v)=>t.setIfInBounds p v) tmps)
 | [],vs,sl,tmps,h=>by cases vs<;>exact h
 | p::ps,[],sl,tmps,h=>h
 | p::ps,v::vs,sl,tmps,h=>by
  simp only [jn,denL,List.zip_cons_cons,List.foldl_cons]
  exact mB (h.set p v)
structure pm (m:List Blk) {β:Type} (mm:β→List Blk→Prop) (Foot:World→Nat→Prop) (w:World):Prop where
 iff:∀ x m1 W,mm x m1→Qx m1 W→∀ b,w.heap.size≤b→(foots m1 b↔Foot W b)
 old:∀ W W' row b,w.heap.size≤W.heap.size→W.grownBy W' row→(∀ r,row=some r→w.heap.size≤r)→Foot W' b→Foot W b
theorem i6 {f : FuncId} {fn : Func} {r0 r3 B assign body : Code} {id : Nat} {g : Operand} {ps : Array Tmp} (hf : P.funcs[f]? = some fn) (hc : fn.body = some (.seq r0 (.seq (.seq r3 (.block id (.rangeFunc g ps assign body))) B))) (hn : (fn.name == "runtime.NumGoroutine") = false)
  {args:List AV} {m:List Blk} {K:AV→List Blk→Prop} (hassign:gZ assign=true) (hbody:gZ body=true) {α:Type} (encs csx:α→List AV) (q:Tmp) (t:TypeId) (Sx:List α→Prop) (N:Nat) (mm:List AV→List α→List Blk→Prop) (hps:∀ x,(encs x).length=ps.size)
  (h:argK args fn.ntmps fun sl=>codeK P (.seq r0 r3) sl m fun e sl m0=>e = .normal∧∃ gf lb m1,Qw m0 m1∧evK sl g (fun v=>v.den=(AV.fn gf [] lb).den)∧(∀ (ars:Array Value) (w:World),(callFunc gf ars).run P w = .ok (.enter gf ars) w)∧pj P gf lb m1 encs Sx N∧mm sl [] m1∧(∀ k∈m1,dA m1 k) ∧
   (∀ w,Qx m1 w→∃ Foot,pm m1 (mm sl) Foot w) ∧
   (∀ pre x m2,mm sl pre m2→codeK P assign (jn sl ps.toList (encs x)) m2 fun e sl' m'=>e = .normal∧∃ b,m'=m2++[⟨⟨b,0,none⟩,csx x,.var t⟩]∧sl'=(jn sl ps.toList (encs x)).set q (.ptr m2.length ⟨b,0,none⟩ 0)) ∧
   (∀ pre x b m2,pre.length<N→mm sl pre m2→codeK P body ((jn sl ps.toList (encs x)).set q (.ptr m2.length ⟨b,0,none⟩ 0)) (m2++[⟨⟨b,0,none⟩,csx x,.var t⟩]) fun e _ m3=>e = .normal∧∃ m4,Qw m3 m4∧mm sl (pre++[x]) m4∧∀ k∈m4,dA m1 k) ∧
   ∀ xs m2,Sx xs→mm sl xs m2→codeK P B sl m2 fun e sl' m'=>match e with
    | .normal=>resK P m' sl' fn.results.toList fun xs=>retK xs fun r=>K r m'
    | .ret=>resK P m' sl' fn.results.toList fun xs=>retK xs fun r=>K r m'
    | _=>False):Qz P f args m K:=by
 rw [aN]
 refine ⟨enters_of hf (by rw [hc];rfl) hn,fun w0 hm0=>?_⟩
 obtain ⟨hlen,h⟩:=dH h
 have hsim:Sim w0 (own m) (args++List.replicate (fn.ntmps - args.length) .any) m { tmps:=(denL args).toArray++Array.replicate (fn.ntmps - (denL args).toArray.size) undef,defers:=[] } w0 :=
  ⟨dz hlen,rfl,hm0,Fr.refl _ w0,fun b hb=>.inl hb,fun b hb=>.inl hb⟩
 refine (callsIn_wide (n:=1)).1 (callsIn_of_wp_marks hf hc trivial (wpIn_seq ?_) rfl)
 refine wpIn_mono (wpIn_wide.2 (ad (c:=r0) h hsim)) fun e a w hq=>?_
 obtain ⟨sl,m0',hq,hsim⟩:=hq
 cases e<;>try (exact absurd hq.1 (by simp))
 refine wpIn_seq (wpIn_seq (wpIn_mono (wpIn_wide.2 (ad (c:=r3) hq hsim)) fun e a w hq=>?_))
 obtain ⟨sl,m0',⟨rfl,gf,lb,m1,hfits,hg,heg,hgive,hm1,hpl,hfoot,hasg,hround,hrest⟩,hs0⟩:=hq
 refine wpIn_block ?_
 obtain ⟨_,hgd,hge⟩:=aG hs0.slots hg
 have hd:a.defers=[]:=hs0.defers
 have hmw:Qx m1 w:=(hfits w hs0.mem).1
 have hfresh0:Fresh (own m) w0 m1:=⟨fun b hb=>hs0.fresh.1 b ((hfits w hs0.mem).2.1 b hb),fun b hb=>hs0.fresh.2 b ((hfits w hs0.mem).2.2 b hb)⟩
 have hseq:=hgive w hmw
 obtain ⟨Foot,hF⟩:=hfoot w hmw
 refine wpIn_rangeFunc_ownH (F:=Fence.wide) (n:=1) rfl (Nat.le_refl 1) (gf:=gf) (lb:=(denL lb).toArray) (by rw [hge,hgd];rfl) trivial heg hseq
  (fun h1 h2=>⟨Nat.le_trans h1.1 h2.1,fun b hb hn=>(h2.2.1 b hb hn).trans (h1.2.1 b hb hn),fun r o hr h3 h4=>h2.2.2 r o hr (h1.2.2 r o hr h3 h4) h4⟩) (fun W l o o' hl hlo _ hw=>⟨by simp [World.putObj],fun b hb _=>World.putObj_heap_other (by omega),fun r o2 hr h3 h4=>by
   rw [World.putObj_heap_other fun e=>?_];exact h3
   subst e;rw [hlo] at h3;injection h3 with h3;subst h3;rw [hw] at h4;cases h4⟩) (Below.refl _ w) (fun x=>by simp [aF,hps x])
  (fun ys W=>mQ m1 w (mm sl ys) W) (fun _ _ _=>False) (kq hmw (mm sl)) (fun _ s W W' row h=>h.elim) ⟨m1,hm1,hpl,hmw,Fr.refl _ w,fun b hb=>.inl hb,fun b hb=>.inl hb⟩
  (fun x a' W=>w.heap.size≤W.heap.size∧∃ b,w.heap.size≤b∧W.heap[b]?=some (.cells (denL (csx x)).toArray t (0,0))∧¬ Foot W b∧a'.defers=[]∧∀ j,Qy ((jn sl ps.toList (encs x)).set q (.ptr j ⟨b,0,none⟩ 0)) a'.tmps) ?_ ?_ ?_ ?_ (fun D c pre W _ _ h=>h.elim)
 ·rintro x a' _ W W' row ⟨h1,b,h2,h3,h4,h5,h6⟩ hgr hrow
  refine ⟨Nat.le_trans h1 hgr.size,b,h2,?_,fun h7=>h4 (hF.old W W' row b h1 hgr (fun r e=>(hrow r e).1) h7),h5,h6⟩
  refine (hgr.block b (Array.getElem?_eq_some_iff.1 h3).1 fun e=>?_).trans h3
  obtain ⟨_,o,h7,h8⟩:=hrow b e.symm
  rw [h3] at h7;injection h7 with h7;subst h7;cases h8
 ·rintro l pre x W Kk ⟨m2,h1,h2,h3,h4,h5⟩ hK
  refine fx hassign (sl:=jn sl ps.toList (encs x)) ?_ rfl h4.size h3 (fun k hk=>⟨fun o e=>by have:=h2 k hk;unfold dA at this;rw [e] at this;exact this,fun o e=>by have:=h2 k hk;unfold dA at this;rw [e] at this;exact this⟩) h4 h5 (hasg pre x m2 h1) ?_
  ·have:=mB (ps:=ps.toList) (vs:=encs x) hs0.slots
   have e:(ps.zip (denL (encs x)).toArray).toList=ps.toList.zip (denL (encs x)):=by simp
   rw [← Array.foldl_toList,e]
   exact this
  ·rintro e a' sl' m3 W' ⟨rfl,b,rfl,rfl⟩ hloc hsl hd' hmo hkf hst hfr hfre hsz
   have hpair:=List.pairwise_append.1 hmo.sep
   have hm2':Qx m2 W':=⟨fun k hk=>hmo.holds k (by simp [hk]),hpair.1⟩
   have hnf:¬ foots m2 b:=fun ⟨k,hk,hb⟩=>hpair.2.2 k hk _ (List.mem_singleton.2 rfl) (.inr rfl) b hb rfl
   have hbw:w.heap.size≤b:=by
    rcases hloc.2 b ⟨⟨⟨b,0,none⟩,csx x,.var t⟩,by simp,rfl⟩ with h6 | h6
    ·exact (hnf h6).elim
    ·exact Nat.le_trans h4.size h6
   refine hK a' W' hkf hst ⟨m2,h1,h2,hm2',hfr,⟨fun b hb=>hfre.1 b ?_,fun b hb=>hfre.2 b ?_⟩⟩ ⟨hfr.size,b,hbw,(hmo.holds ⟨⟨b,0,none⟩,csx x,.var t⟩ (by simp)).2.2,fun h6=>hnf ((hF.iff pre m2 W' h1 hm2' b hbw).2 h6),hd',fun j=>?_⟩
   iterate 2
    ·obtain ⟨k,hk,h6⟩:=hb;exact ⟨k,by simp [hk],h6⟩
   ·refine ⟨by simpa using hsl.1,fun i y v hy hv=>?_⟩
    rw [List.getElem?_set] at hy
    by_cases hqi:q=i
    ·subst hqi
     rw [if_pos rfl] at hy
     split at hy
     ·rename_i hlt
      injection hy with hy
      subst hy
      have:=hsl.2 q (.ptr m2.length ⟨b,0,none⟩ 0) v (by rw [List.getElem?_set_self hlt]) hv
      rcases this with h | h
      ·cases h
      ·exact .inr h
     ·cases hy
    ·rw [if_neg hqi] at hy
     exact hsl.2 i y v (by rw [List.getElem?_set_ne hqi];exact hy) hv
 ·rintro l pre x a' W _ _ ⟨m2,h1,h2,h3,h4,h5⟩ ⟨h6,b,h7,h8,h9,h10,h11⟩ hlt
  have hnf:¬ foots m2 b:=fun h=>h9 ((hF.iff pre m2 W h1 h3 b h7).1 h)
  refine fx hbody (h11 m2.length) h10 h4.size (h3.and_one h8 hnf) (fun k hk=>by
   rcases List.mem_append.1 hk with hk | hk
   ·exact ⟨fun o e=>by have:=h2 k hk;unfold dA at this;rw [e] at this;exact this,fun o e=>by have:=h2 k hk;unfold dA at this;rw [e] at this;exact this⟩
   ·exact ⟨fun o e=>(by rw [List.mem_singleton.1 hk] at e;cases e),fun o e=>(by rw [List.mem_singleton.1 hk] at e;cases e)⟩) h4 ⟨fun b' hb=>?_,fun b' hb=>?_⟩ (hround pre x b m2 hlt h1) ?_
  ·obtain ⟨k,hk,hw,hb⟩:=hb
   rcases List.mem_append.1 hk with hk | hk
   ·exact h5.1 b' ⟨k,hk,hw,hb⟩
   ·rw [List.mem_singleton] at hk
    subst hk
    simp only [Blk.foot,Blk.bn,Option.some.injEq] at hb
    exact .inr (by omega)
  ·obtain ⟨k,hk,hb⟩:=hb
   rcases List.mem_append.1 hk with hk | hk
   ·exact h5.2 b' ⟨k,hk,hb⟩
   ·rw [List.mem_singleton] at hk
    subst hk
    simp only [Blk.foot,Blk.bn,Option.some.injEq] at hb
    exact .inr (by omega)
  ·rintro e a2 sl' m3 W' ⟨rfl,m4,hfit,hmm,hpl4⟩ _ hsl hd' hmo hkf hst hfr hfre hsz
   exact ⟨hkf,hst,m4,hmm,hpl4,(hfit W' hmo).1,hfr,fun b hb=>hfre.1 b ((hfit W' hmo).2.1 b hb),fun b hb=>hfre.2 b ((hfit W' hmo).2.2 b hb)⟩
 ·rintro D ys W hD hys ⟨m2,h2,hp2,hm2,hf2,hfr2⟩ hdef
  have hDlt:D<W.heap.size:=(Array.getElem?_eq_some_iff.1 hdef).1
  have hDfoot:¬ foots m2 D:=by
   rintro ⟨k,hk,hb⟩
   rcases gY hmw hm2 hp2 hk hb with h | ⟨o,h3,h4⟩
   ·omega
   ·rw [hdef] at h3;injection h3 with h3;subst h3;cases h4
  have hsim2:Sim W ⟨wrs m2,foots m2,{ target:=.collected D,args:=#[] }::a.defers⟩ sl m2 { a with defers:={ target:=.collected D,args:=#[] }::a.defers } W :=
   ⟨hs0.slots,rfl,hm2,Fr.refl _ W,fun b hb=>.inl hb,fun b hb=>.inl hb⟩
  show B.wpIn _ _ _ _ _ _
  refine wpIn_mono (wpIn_wide.2 (ad (hrest ys m2 hys h2) hsim2)) fun e a' w' hq=>?_
  obtain ⟨sl',m',hq,hs'⟩:=hq
  have hdef':w'.heap[D]?=some (.deferred (some [])):=(hs'.fr.block D hDlt fun ⟨k,hk,_,hb⟩=>hDfoot ⟨k,hk,hb⟩).trans hdef
  have hDfoot':¬ foots m' D:=fun hb=>(hs'.fresh.2 D hb).elim hDfoot fun h=>by omega
  have hm':Qx m' (w'.putObj D (.deferred none)):=hs'.mem.keep (by simp [World.putObj]) fun k hk b hb=>World.putObj_heap_other (fun e=>hDfoot' ⟨k,hk,by rw [← e];exact hb⟩)
  have fin:∀ r,K r m'→(results fn a'.tmps).run P (w'.putObj D (.deferred none)) = .ok r.den (w'.putObj D (.deferred none)) →
    LeavesInM Fence.wide 1 P fn a'.tmps (fun e w'=>∃ r m',K r m'∧e = .returned r.den∧Qx m' w'∧Fr (wrs m) w0 w'∧Fresh (own m) w0 m') a'.defers .returning w':=by
   intro r hr hres
   have hd':a'.defers={ target:=.collected D,args:=#[] }::a.defers:=hs'.defers
   rw [hd',hd]
   refine ⟨by simp,.inl ⟨D,w'.putObj D (.deferred none),rfl,run_takeDeferred hdef',r.den,hres,r,m',hr,rfl,hm',?_,?_,?_⟩⟩
   ·refine ⟨hs'.fr.os.trans (hf2.os.trans hs0.fr.os),hs'.fr.tape.trans (hf2.tape.trans hs0.fr.tape),hs'.fr.output.trans (hf2.output.trans hs0.fr.output),?_,fun k hk hw=>?_⟩
    ·have:=hs'.fr.size;have:=hf2.size;have:=hs0.fr.size
     simp [World.putObj];omega
    ·have h1:=hs0.fr.size
     have h2':=hf2.size
     have hkD:k≠D:=by omega
     rw [World.putObj_heap_other (by omega)]
     have hw1:¬ wrs m1 k:=fun h=>(hfresh0.1 k h).elim hw fun h=>by omega
     have hw2:¬ wrs m2 k:=fun h=>(hfr2.1 k h).elim hw1 fun h=>by omega
     exact (hs'.fr.block k (by omega) hw2).trans ((hf2.block k (by omega) hw1).trans (hs0.fr.block k hk hw))
   ·intro b hb
    have h1:=hs0.fr.size
    have h2':=hf2.size
    rcases hs'.fresh.1 b hb with h | h
    ·rcases hfr2.1 b h with h | h
     ·exact hfresh0.1 b h
     ·exact .inr (by omega)
    ·exact .inr (by omega)
   ·intro b hb
    have h1:=hs0.fr.size
    have h2':=hf2.size
    rcases hs'.fresh.2 b hb with h | h
    ·rcases hfr2.2 b h with h | h
     ·exact hfresh0.2 b h
     ·exact .inr (by omega)
    ·exact .inr (by omega)
  cases e with
  | normal =>
   obtain ⟨zs,h3,h4⟩:=am hs'.slots hq
   exact fin _ (bR h3) (h4 _ hm')
  | ret =>
   obtain ⟨zs,h3,h4⟩:=am hs'.slots hq
   exact fin _ (bR h3) (h4 _ hm')
  | exit id=>exact hq.elim
  | goto l=>exact hq.elim
  | panic ch=>exact hq.elim
  | outgrown=>exact hq.elim
end
set_option linter.unusedVariables false
def cU (A B:Heap):Heap:=⟨fun a u=>A.c a u∨B.c a u,fun b o=>A.o b o∨B.o b o⟩
theorem cU.l {A B:Heap}:A.le (cU A B):=⟨fun _ _ h=>.inl h,fun _ _ h=>.inl h⟩
theorem cU.r {A B:Heap}:B.le (cU A B):=⟨fun _ _ h=>.inr h,fun _ _ h=>.inr h⟩
theorem gW {F G:Heap} (h:F.le G):∀ b,(hpB F).foot b→(hpB G).foot b:=by
 rintro b (⟨a,u,hu,e⟩ | ⟨o,ho⟩)
 ·exact .inl ⟨a,u,h.c a u hu,e⟩
 ·exact .inr ⟨o,h.o b o ho⟩
theorem qm (F G:Heap):Sep (hpB F) (hpB G):=fun h=>by rcases h with h | h<;>cases h
theorem Qw.dup {F G:Heap} (h:F.le G) (m:List Blk):Qw (hpB G::m) (hpB F::hpB G::m):=fun w hm=>by
 have h1:=hm.holds (hpB G) (by simp)
 have hs:=hm.sep
 rw [List.pairwise_cons] at hs
 refine ⟨⟨fun k hk=>?_,?_⟩,fun b ⟨k,hk,hw,hb⟩=>?_,fun b ⟨k,hk,hb⟩=>?_⟩
 ·rcases List.mem_cons.1 hk with rfl | hk
  ·exact ⟨rfl,fun a u hu=>h1.2.1 a u (h.c a u hu),fun b o ho=>h1.2.2 b o (h.o b o ho)⟩
  ·exact hm.holds k hk
 ·rw [List.pairwise_cons]
  refine ⟨fun y hy=>?_,hm.sep⟩
  rcases List.mem_cons.1 hy with rfl | hy
  ·exact qm _ _
  ·exact fun hw b hb1 hb2=>hs.1 y hy (hw.imp (fun h=>by cases h) id) b (gW h b hb1) hb2
 ·rcases List.mem_cons.1 hk with rfl | hk
  ·cases hw
  ·exact ⟨k,hk,hw,hb⟩
 ·rcases List.mem_cons.1 hk with rfl | hk
  ·exact ⟨hpB G,by simp,gW h b hb⟩
  ·exact ⟨k,hk,hb⟩
theorem Qw.joinH (A B:Heap) (m:List Blk):Qw (hpB A::hpB B::m) (hpB (cU A B)::m):=fun w hm=>by
 have h1:=hm.holds (hpB A) (by simp)
 have h2:=hm.holds (hpB B) (by simp)
 have hs:=hm.sep
 simp only [List.pairwise_cons] at hs
 have hf:∀ b,(hpB (cU A B)).foot b→(hpB A).foot b∨(hpB B).foot b:=by
  rintro b (⟨a,u,hu | hu,e⟩ | ⟨o,ho | ho⟩)
  ·exact .inl (.inl ⟨a,u,hu,e⟩)
  ·exact .inr (.inl ⟨a,u,hu,e⟩)
  ·exact .inl (.inr ⟨o,ho⟩)
  ·exact .inr (.inr ⟨o,ho⟩)
 refine ⟨⟨fun k hk=>?_,?_⟩,fun b ⟨k,hk,hw,hb⟩=>?_,fun b ⟨k,hk,hb⟩=>?_⟩
 ·rcases List.mem_cons.1 hk with rfl | hk
  ·exact ⟨rfl,fun a u hu=>hu.elim (h1.2.1 a u) (h2.2.1 a u),fun b o ho=>ho.elim (h1.2.2 b o) (h2.2.2 b o)⟩
  ·exact hm.holds k (by simp [hk])
 ·rw [List.pairwise_cons]
  refine ⟨fun y hy hw b hb1 hb2=>?_,hs.2.2⟩
  rcases hf b hb1 with hb | hb
  ·exact hs.1 y (by simp [hy]) (hw.imp (fun h=>by cases h) id) b hb hb2
  ·exact hs.2.1 y hy (hw.imp (fun h=>by cases h) id) b hb hb2
 ·rcases List.mem_cons.1 hk with rfl | hk
  ·cases hw
  ·exact ⟨k,by simp [hk],hw,hb⟩
 ·rcases List.mem_cons.1 hk with rfl | hk
  ·rcases hf b hb with hb | hb
   ·exact ⟨hpB A,by simp,hb⟩
   ·exact ⟨hpB B,by simp,hb⟩
  ·exact ⟨k,by simp [hk],hb⟩
end Go.Sx
namespace Go.Proofs.YtmehinfgdcmmjaaGreatDoor
open Go.Sx
set_option maxRecDepth 20000
set_option linter.unusedSimpArgs false
set_option linter.unusedVariables false
theorem nI (t:List UInt8) (ht:t.length≤10000):Qz Tryz.prog 234 [.str t,.str [58,61]] [] fun r _=>r = .bool (decide (t.take 2=[58,61])):=by
 refine aB Tryz.func234 rfl (by decide) ?_
 by_cases h:2≤t.length
 ·(repeat' (first|(with_reducible first|(refine hK _ _ ?_;clear hK K)|(refine hA ?_;clear hA hB A B)|(refine hB ?_;clear hA hB A B)|(refine hK _ ?_;clear hK K))|(((with_reducible refine NN.eq (n:=2) ?side ?_);case side=>omega)<;>(conv=>whnf))|refine dY ?_|refine eF ?_|((with_reducible refine gX ?_);refine z34 (by kernel_rfl) (by kernel_rfl) ?_)|(refine eG ?_;intro K hK;conv=>whnf)|(refine eH ?_;intro A B hA hB;conv=>whnf)|((with_reducible first|refine NIf.dec (fun _=>?_) (fun _=>?_)|refine NIf.both (fun _=>?_) (fun _=>?_))<;>(conv=>whnf))|((intro _;skip)<;>(conv=>whnf))))
  all_goals first | rfl | (exfalso;simp only [List.length_cons,List.length_nil] at *;omega)
 ·have hn:t.take 2≠[58,61]:=fun e=>by
   have:=congrArg List.length e
   rw [List.length_take] at this
   simp at this
   omega
  repeat' first|(refine sxZ ?_;try clear hK K)|refine sxW ?_ ?_<;>intro _|(intro K hK _;conv=>whnf)
  all_goals first | exact boolF hn | (exfalso;simp only [List.length_cons,List.length_nil] at *;omega)
theorem oT (t:List UInt8) (ht:t.length≤10000):Qz Tryz.prog 214 [.str t,.str [58,61]] [] fun r _=>r = .bool (decide (t.take 2=[58,61])):=by
 have h:=nI t ht
 refine aB Tryz.func214 rfl (by decide) ?_
 repeat' first|(intro K hK;(with_reducible refine gC ?_);refine cP h ?_)|(refine sxZ ?_;try clear hK K)|refine sxW ?_ ?_<;>intro _|(intro K hK _;conv=>whnf)
 all_goals rfl
theorem nN:∀ n:Nat,n<256→(0≤Lib.indexByte [40,41,59,124,61] n.toUInt8↔Lx.isS n.toUInt8=true):=by decide +kernel
theorem qM (c:UInt8):Qz Tryz.prog 215 [.str [40,41,59,124,61],.int .u8 c.toNat] [] fun r _=>∃ j:Int,r = .int .i64 j∧(0≤j↔Lx.isS c=true):=by
 have hc:=nN c.toNat c.toNat_lt
 have e:c.toNat.toUInt8=c:=by simp
 rw [e] at hc
 refine (cZ (r:=.int .i64 (Lib.indexByte [40,41,59,124,61] c)) (Go.Sx.enters_of Tryz.func215 rfl (by decide)) fun w hw=>?_).mono fun r m h=>⟨_,h.1,hc⟩
 refine (Tryz.strings_IndexByte ⟨#[40,41,59,124,61]⟩ c.toNat w).mono fun e' w' ⟨h1,h2⟩=>?_
 subst h2
 refine ⟨?_,rfl,rfl,rfl,Nat.le_refl _,fun _ _=>rfl⟩
 rw [h1,Int.toNat_natCast,e]
 rfl
theorem rJ (tx:List UInt8) (i:Nat):((tx.drop i).take 2=[58,61])↔(i<tx.length∧tx.getD i 0=58∧(tx.drop (i+1)).head?=some 61):=by
 by_cases h:i<tx.length
 ·rw [Lx.drop_getD tx i h]
  cases hr:tx.drop (i+1) with
  | nil=>simp
  | cons d r=>simp [h]
 ·rw [List.drop_eq_nil_of_le (by omega)]
  simp;omega
set_option maxHeartbeats 2000000 in
theorem oa (a:Addr) (tx:List UInt8) (i:Nat) (hi:i<tx.length) (hs:tx.length≤10000) :
  Qz Tryz.prog 171 [.ptr 0 a 0] [LB a tx i] fun r m =>
   (∀ b n,Lx.nextB (tx.drop i)=some (b,n)→r = .tup [bO b.k b.n b.s i,.bool true]∧Qw m [LB a tx (i+n)]) ∧
   (Lx.nextB (tx.drop i)=none→r = .tup [bO 0 0 [] i,.bool false]∧∃ j,Qw m [LB a tx j]):=by
 have hg:=Lx.drop_getD tx i hi
 have hnb:=Lx.nextB_eq (tx.getD i 0) (tx.drop (i+1))
 rw [← hg] at hnb
 have hl:=kJ (tx.getD i 0)
 have hd:=mN (tx.getD i 0)
 have hp:=oT (tx.drop i) (by rw [List.length_drop];omega)
 have hx:=qM (tx.getD i 0)
 have h2:=rJ tx i
 refine aB Tryz.func171 rfl (by decide) ?_
 unfold bO
 by_cases c1:Lx.isL (tx.getD i 0)=true
 ·rw [if_pos c1] at hnb
  rw [c1] at hl
  have hw:=fc 211 Lx.isL kJ a tx i (by omega) hs
  have hwl:Lx.wl Lx.isL tx i=((tx.drop i).takeWhile Lx.isL).length:=rfl
  rw [hwl] at hw
  generalize (tx.drop i).takeWhile Lx.isL=ws at *
  repeat' first|(intro K hK;(with_reducible refine gC ?_);first|refine cP hl ?_|refine cS [0] hw ?_)|(refine sxO ?_;try clear hK K)|refine sxW ?_ ?_<;>intro _|refine sxV ?_ ?_|(intro K hK _;conv=>whnf)
  all_goals first
   | exact ⟨fun b n e=>by rw [hnb] at e;injection e with e;injection e with e1 e2;subst e1 e2;exact ⟨rfl,Qw.drop [_] [_]⟩,fun e=>by rw [hnb] at e;cases e⟩
   | skip
 rw [if_neg c1] at hnb
 rw [show Lx.isL (tx.getD i 0)=false by simpa using c1] at hl
 by_cases c2:Lx.isD (tx.getD i 0)=true
 ·rw [if_pos c2] at hnb
  rw [c2] at hd
  have hne:(tx.drop i).takeWhile Lx.isD≠[]:=by rw [hg,List.takeWhile_cons_of_pos c2];simp
  have h0:((tx.drop i).takeWhile Lx.isD).getD 0 0=tx.getD i 0:=by rw [hg,List.takeWhile_cons_of_pos c2];rfl
  have hw:Qz Tryz.prog 213 [.ptr 0 a 0] [LB a tx i] fun r m=>r = .tup [if Lx.numOk ((tx.drop i).takeWhile Lx.isD) then bO 2 (Lx.num ((tx.drop i).takeWhile Lx.isD)) [] i else bO 0 0 [] i,.bool (decide (Lx.numOk ((tx.drop i).takeWhile Lx.isD)))]∧m=[LB a tx (i+((tx.drop i).takeWhile Lx.isD).length)] :=
   (oY a tx i (by omega) hs _ rfl hne).fits fun r m h=>⟨r,_,rfl,h.2,h.1,rfl⟩
  have hok:Lx.numOk ((tx.drop i).takeWhile Lx.isD)↔¬ (3<((tx.drop i).takeWhile Lx.isD).length∨(1<((tx.drop i).takeWhile Lx.isD).length∧tx.getD i 0=48)):=by unfold Lx.numOk;rw [h0]
  generalize (tx.drop i).takeWhile Lx.isD=ds at *
  by_cases hk:Lx.numOk ds
  ·rw [if_neg (hok.1 hk)] at hnb
   rw [if_pos hk,decide_eq_true hk] at hw
   unfold bO at hw
   repeat' first|(intro K hK;(with_reducible refine gC ?_);first|refine cP hl ?_|refine cP hd ?_|refine cS [0] hw ?_)|(refine sxO ?_;try clear hK K)|refine sxW ?_ ?_<;>intro _|refine sxV ?_ ?_|(intro K hK _;conv=>whnf)
   all_goals first
    | exact ⟨fun b n e=>by rw [hnb] at e;injection e with e;injection e with e1 e2;subst e1 e2;exact ⟨rfl,Qw.drop [_] [_]⟩,fun e=>by rw [hnb] at e;cases e⟩
    | skip
  ·rw [if_pos (Decidable.not_not.1 fun q=>hk (hok.2 q))] at hnb
   rw [if_neg hk,decide_eq_false hk] at hw
   unfold bO at hw
   repeat' first|(intro K hK;(with_reducible refine gC ?_);first|refine cP hl ?_|refine cP hd ?_|refine cS [0] hw ?_)|(refine sxO ?_;try clear hK K)|refine sxW ?_ ?_<;>intro _|refine sxV ?_ ?_|(intro K hK _;conv=>whnf)
   all_goals first
    | exact ⟨fun b n e=>(by rw [hnb] at e;cases e),fun _=>⟨rfl,i+ds.length,Qw.drop [_] [_]⟩⟩
    | skip
 rw [if_neg c2] at hnb
 rw [show Lx.isD (tx.getD i 0)=false by simpa using c2] at hd
 by_cases c3:(tx.drop i).take 2=[58,61]
 ·have c3':=(h2.1 c3).2
  rw [if_pos c3'] at hnb
  rw [decide_eq_true c3] at hp
  repeat' first|(intro K hK;(with_reducible refine gC ?_);first|refine cP hl ?_|refine cP hd ?_|refine cP hp ?_)|(refine sxO ?_;try clear hK K)|refine sxW ?_ ?_<;>intro _|refine sxV ?_ ?_|(intro K hK _;conv=>whnf)
  all_goals first
   | exact ⟨fun b n e=>by rw [hnb] at e;injection e with e;injection e with e1 e2;subst e1 e2;exact ⟨rfl,Qw.drop [_] [_]⟩,fun e=>by rw [hnb] at e;cases e⟩
   | skip
 have c3':¬ (tx.getD i 0=58∧(tx.drop (i+1)).head?=some 61):=fun e=>c3 (h2.2 ⟨hi,e⟩)
 rw [if_neg c3'] at hnb
 rw [decide_eq_false c3] at hp
 by_cases c4:Lx.isS (tx.getD i 0)=true
 ·rw [if_pos c4] at hnb
  repeat' first|((try intro K hK);(with_reducible refine gC ?_);first|refine cP hl ?_|refine cP hd ?_|refine cP hp ?_|(refine Qz.pure hx ?_;rintro _ _ ⟨j,rfl,hj⟩;refine ⟨_,rfl,?_⟩;conv=>whnf))|((try intro K hK);(refine NBytes.mk [tx.getD i 0] rfl ?_;conv=>whnf))|(refine sxO ?_;try clear hK K)|refine sxW ?_ ?_<;>intro _|refine sxV ?_ ?_|(intro K hK _;conv=>whnf)|(intro _;conv=>whnf)
  all_goals first
   | (exfalso;have:=hj.2 c4;omega)
   | exact ⟨fun b n e=>by rw [hnb] at e;injection e with e;injection e with e1 e2;subst e1 e2;exact ⟨rfl,Qw.pre 1 rfl⟩,fun e=>by rw [hnb] at e;cases e⟩
   | skip
 ·rw [if_neg c4] at hnb
  repeat' first|((try intro K hK);(with_reducible refine gC ?_);first|refine cP hl ?_|refine cP hd ?_|refine cP hp ?_|(refine Qz.pure hx ?_;rintro _ _ ⟨j,rfl,hj⟩;refine ⟨_,rfl,?_⟩;conv=>whnf))|((try intro K hK);(refine NBytes.mk [tx.getD i 0] rfl ?_;conv=>whnf))|(refine sxO ?_;try clear hK K)|refine sxW ?_ ?_<;>intro _|refine sxV ?_ ?_|(intro K hK _;conv=>whnf)|(intro _;conv=>whnf)
  all_goals first
   | (exfalso;exact c4 (hj.1 (by omega)))
   | exact ⟨fun b n e=>(by rw [hnb] at e;cases e),fun _=>⟨rfl,i,Qw.drop [_] [_]⟩⟩
   | skip
namespace Lx
structure T where
 k:Int
 n:Int
 s:List UInt8
 at_:Int
def tokV (x:T):List Value:=[.int .i64 x.k,.int .i64 x.n,.string ⟨x.s.toArray⟩,.int .i64 x.at_]
def tokC (x:T):List AV:=[.int .i64 x.k,.int .i64 x.n,.str x.s,.int .i64 x.at_]
theorem tokC_den (l:List T):denL (l.flatMap tokC)=l.flatMap tokV:=by
 induction l with
 | nil=>rfl
 | cons x l ih=>simp only [List.flatMap_cons,aS,ih];rfl
theorem tokC_len (l:List T):(l.flatMap tokC).length=l.length*4:=by
 induction l with
 | nil=>rfl
 | cons x l ih=>simp only [List.flatMap_cons,List.length_append,ih,List.length_cons];simp [tokC];omega
def tokAt (tx:List UInt8) (x:B × List UInt8):T:=⟨x.1.k,x.1.n,x.1.s,tx.length - x.2.length⟩
def res (tx:List UInt8) (L:List (B × List UInt8)):List T:=L.map (tokAt tx)++[⟨4,0,[],tx.length⟩]
def good (tx:List UInt8):Prop:=∃ L,toks tx=some L∧L.length≤500
theorem drop_sk (tx:List UInt8) (i:Nat) (hi:i≤tx.length):tx.drop (sk tx i)=skip (tx.drop i)∧i≤sk tx i∧sk tx i≤tx.length:=by
 have hl:=skip_len (tx.drop i).length (tx.drop i) (Nat.le_refl _)
 rw [List.length_drop] at hl
 unfold sk
 refine ⟨?_,by omega,by omega⟩
 by_cases h:skip (tx.drop i)=[]
 ·rw [h];simp
 ·obtain ⟨b,hb,_⟩:=skip_split (tx.drop i).length (tx.drop i) (Nat.le_refl _) h
  have e:=congrArg List.length hb
  rw [List.length_drop,List.length_append] at e
  generalize skip (tx.drop i)=q at *
  have:tx=tx.take i++(b++q):=by rw [← hb];simp
  have hp:tx.length - q.length=(tx.take i++b).length:=by rw [List.length_append,List.length_take];omega
  rw [hp,this]
  have e2:(List.take i (List.take i tx++(b++q))++b)=List.take i tx++b:=by
   rw [List.take_append_of_le_length (by rw [List.length_take];omega),List.take_take,Nat.min_self]
  rw [e2,← List.append_assoc,List.drop_left]
structure St (tx:List UInt8) (i:Nat) (out:List T):Prop where
 le:i≤tx.length
 few:out.length≤500
 is:∃ pre,out=pre.map (tokAt tx)∧toks tx=(toks (tx.drop i)).map (pre++·)
theorem St.begin (tx:List UInt8):St tx 0 []:=⟨Nat.zero_le _,Nat.zero_le _,[],rfl,by simp⟩
theorem St.done {tx:List UInt8} {i:Nat} {out:List T} (h:St tx i out) (e:sk tx i=tx.length):∃ L,toks tx=some L∧L.length≤500∧out++[⟨4,0,[],tx.length⟩]=res tx L:=by
 obtain ⟨pre,h1,h2⟩:=h.is
 have hd:=(drop_sk tx i h.le).1
 rw [e,List.drop_length] at hd
 rw [toks_nil hd.symm] at h2
 refine ⟨pre,by rw [h2];simp,?_,by rw [h1];rfl⟩
 have:=h.few
 rw [h1,List.length_map] at this
 exact this
theorem St.bad {tx:List UInt8} {i:Nat} {out:List T} (h:St tx i out) (e:sk tx i<tx.length) (hn:nextB (tx.drop (sk tx i))=none):¬ good tx:=by
 obtain ⟨pre,h1,h2⟩:=h.is
 have hd:=(drop_sk tx i h.le).1
 rw [hd] at hn
 have hne:skip (tx.drop i)≠[]:=by
  rw [← hd];intro e2
  have:=congrArg List.length e2
  rw [List.length_drop] at this
  simp at this;omega
 rw [toks_none hne hn] at h2
 rintro ⟨L,h3,_⟩
 rw [h2] at h3;cases h3
theorem St.next {tx:List UInt8} {i:Nat} {out:List T} (h:St tx i out) (e:sk tx i<tx.length) {b:B} {n:Nat} (hn:nextB (tx.drop (sk tx i))=some (b,n)) :
  i<sk tx i+n∧sk tx i+n≤tx.length∧(out.length<500→St tx (sk tx i+n) (out++[⟨b.k,b.n,b.s,sk tx i⟩]))∧(out.length=500→¬ good tx):=by
 obtain ⟨pre,h1,h2⟩:=h.is
 obtain ⟨hd,hle,hle2⟩:=drop_sk tx i h.le
 have hp:=nextB_pos hn
 rw [List.length_drop] at hp
 rw [hd] at hn
 have hne:skip (tx.drop i)≠[]:=by
  rw [← hd];intro e2
  have:=congrArg List.length e2
  rw [List.length_drop] at this
  simp at this;omega
 rw [toks_cons hne hn,Option.map_map] at h2
 have hdr:(skip (tx.drop i)).drop n=tx.drop (sk tx i+n):=by rw [← hd,List.drop_drop]
 rw [hdr] at h2
 refine ⟨by omega,by omega,fun hl=>⟨by omega,by simp;omega,pre++[(b,skip (tx.drop i))],?_,?_⟩,fun hl=>?_⟩
 ·rw [h1,List.map_append]
  congr 1
  have:((tx.length:Int) - (skip (tx.drop i)).length)=(sk tx i:Nat):=by
   have:(skip (tx.drop i)).length=tx.length - sk tx i:=by rw [← hd,List.length_drop]
   omega
  simp only [List.map_cons,List.map_nil,tokAt,this]
 ·rw [h2]
  congr 1
  funext q
  simp
 ·rintro ⟨L,h3,h4⟩
  rw [h2] at h3
  obtain ⟨q,_,rfl⟩:=Option.map_eq_some_iff.1 h3
  rw [h1,List.length_map] at hl
  simp at h4;omega
end Lx
def q6 (F:Heap) (tx:List UInt8) (r:AV) (m:List Blk):Prop :=
 (∃ L v,Lx.toks tx=some L∧L.length≤500∧Qw m [hpB F,⟨addrOf v,(Lx.res tx L).flatMap Lx.tokC,.row v 189 4 (L.length+1)⟩]∧r.den=(AV.tup [.sl 1 v (L.length+1),.int .i64 0,.int .i64 0]).den) ∨
 (¬ Lx.good tx∧∃ at_ e:Int,e≠0∧Qw m [hpB F]∧r = .tup [.raw (.slice none 0 0),.int .i64 at_,.int .i64 e])
set_option maxHeartbeats 2000000 in
theorem qJ (F:Heap) (tx:List UInt8) (hs:tx.length≤4000):Qz Tryz.prog 125 [.str tx] [hpB F] (q6 F tx):=by
 refine aB Tryz.func125 rfl (by decide) ?_
 repeat' first|(refine sxZ ?_;try clear hK K)|refine sxW ?_ ?_<;>intro _|(intro K hK _;conv=>whnf)
 rename_i b0
 refine aE (α:=Nat × List Lx.T × Value) (fun x=>Lx.St tx x.1 x.2.1) (fun x=>[.k,.k,.d,.d,.d,.k,.set (.sl 2 x.2.2 x.2.1.length),.d,.d,.k,.k,.k,.k,.k,.k,.d,.d,.d,.d,.d,.d,.d,.d,.d,.d,.d,.d,.d,.d,.d,.d,.d,.d,.d,.d,.d,.d,.d,.d,.d,.d,.d,.d,.d,.d,.d,.d,.d,.d,.d,.d,.d]) (fun x=>[.k,.set (LB ⟨b0,0,none⟩ tx x.1),.set ⟨addrOf x.2.2,x.2.1.flatMap Lx.tokC,.row x.2.2 189 4 x.2.1.length⟩]) (fun x=>tx.length - x.1) (0,[],.slice none 0 0) (Lx.St.begin tx) ?_ (Qw.nilRow _ _ _) ?_
 ·exact aD
 (intro ⟨i,out,v⟩ hst;intro K hK;(conv=>whnf);refine hK _ _ ?_;clear hK K)
 dsimp only at hst ⊢
 obtain ⟨hd,hle,hle2⟩:=Lx.drop_sk tx i hst.le
 have hsk:=oL ⟨b0,0,none⟩ tx i hst.le (by omega)
 have hdone:=hst.done
 have hbad:=hst.bad
 have hnext:=@Lx.St.next _ _ _ hst
 have hfew:=hst.few
 have hol:=Lx.tokC_len out
 generalize Lx.sk tx i=j at *
 by_cases hj:j=tx.length
 ·obtain ⟨L,hL,hLl,hres⟩:=hdone hj
  have hll:out.length=L.length:=by
   have:=congrArg List.length hres
   simpa [Lx.res] using this
  subst hj
  repeat' first|(intro K hK;(with_reducible refine gC ?_);refine cS [1] hsk ?_)|(refine sxZ ?_;try clear hK K)|refine sxW ?_ ?_<;>intro _|(intro K hK _;conv=>whnf)
  rename_i b9 v2
  all_goals
   refine .inl ⟨L,v2,hL,hLl,Qw.pick [0,2] (by decide) ?_,?_⟩
   ·rw [← hres,← hll,List.flatMap_append]
    rfl
   ·simp only [AV.den,denL,aw,hll]
 ·have hjl:j<tx.length:=by omega
  have hnx:=oa ⟨b0,0,none⟩ tx j hjl (by omega)
  cases hn:Lx.nextB (tx.drop j) with
  | none =>
   have hbd:=hbad hjl hn
   have hnx:=hnx.mono (K':=fun r m=>r = .tup [bO 0 0 [] j,.bool false]∧∃ q,Qw m [LB ⟨b0,0,none⟩ tx q]) fun r m h=>h.2 hn
   have hnx:Qz Tryz.prog 171 [.ptr 0 ⟨b0,0,none⟩ 0] [LB ⟨b0,0,none⟩ tx j] fun r m=>r = .tup [bO 0 0 [] j,.bool false]∧∃ q,m=[LB ⟨b0,0,none⟩ tx q]:=hnx.fits fun r m h=>by
    obtain ⟨h1,q,h2⟩:=h
    exact ⟨r,_,rfl,h2,h1,q,rfl⟩
   unfold bO at hnx
   repeat' first|(intro K hK;(with_reducible refine gC ?_);first|refine cS [1] hsk ?_|(refine cN [1] hnx ?_;rintro _ _ ⟨rfl,q,rfl⟩;refine cR ?_))|(refine sxZ ?_;try clear hK K)|refine sxW ?_ ?_<;>intro _|(intro K hK _;conv=>whnf)
   all_goals exact .inr ⟨hbd,_,_,by decide,Qw.pick [0] (by decide) rfl,rfl⟩
  | some bn =>
   obtain ⟨b,n⟩:=bn
   obtain ⟨h1,h2,h3,h4⟩:=hnext hjl hn
   have hnx:Qz Tryz.prog 171 [.ptr 0 ⟨b0,0,none⟩ 0] [LB ⟨b0,0,none⟩ tx j] fun r m=>r = .tup [bO b.k b.n b.s j,.bool true]∧m=[LB ⟨b0,0,none⟩ tx (j+n)]:=hnx.fits fun r m h=>by
    obtain ⟨h5,h6⟩:=h.1 b n hn
    exact ⟨r,_,rfl,h6,h5,rfl⟩
   unfold bO at hnx
   by_cases hf:out.length=500
   ·have hbd:=h4 hf
    repeat' first|(intro K hK;(with_reducible refine gC ?_);first|refine cS [1] hsk ?_|refine cS [1] hnx ?_)|(refine sxZ ?_;try clear hK K)|refine sxW ?_ ?_<;>intro _|(intro K hK _;conv=>whnf)
    all_goals exact .inr ⟨hbd,_,_,by decide,Qw.pick [0] (by decide) rfl,rfl⟩
   ·have hst2:=h3 (by omega)
    repeat' first|(intro K hK;(with_reducible refine gC ?_);first|refine cS [1] hsk ?_|refine cS [1] hnx ?_)|(refine sxZ ?_;try clear hK K)|refine sxW ?_ ?_<;>intro _|(intro K hK _;conv=>whnf)
    rename_i v2
    refine aC (j+n,out++[⟨b.k,b.n,b.s,j⟩],v2) hst2 (by dsimp only;omega) ?_ (Qw.trans (Qw.pre 3 rfl) (Qw.eq ?_))
    ·exact aD
    ·rw [List.flatMap_append,List.length_append]
     rfl
theorem rB (F:Heap) (tx:List UInt8) (hs:tx.length≤4000):Qz Tryz.prog 125 [.str tx] [hpB F] fun r m =>
  (∃ L F' v,Lx.toks tx=some L∧L.length≤500∧F.le F'∧m=[hpB F']∧r = .tup [.hs v (Lx.res tx L).length,.int .i64 0,.int .i64 0]∧aI F' 4 (fun x vs=>vs=Lx.tokV x) v (Lx.res tx L)) ∨
  (¬ Lx.good tx∧∃ at_ e:Int,e≠0∧m=[hpB F]∧r = .tup [.hs (.slice none 0 0) 0,.int .i64 at_,.int .i64 e]):=by
 refine Go.Sx.Qz.know (qJ F tx hs) fun r m' h ⟨w,hw⟩=>?_
 rcases h with ⟨L,v,hL,hLl,hm,hr⟩ | ⟨hb,at_,e,he,hm,hr⟩
 ·have hlen:(Lx.res tx L).length=L.length+1:=by simp [Lx.res]
  obtain ⟨hok,_,hsl⟩:=(hm w hw).1.row (List.mem_cons_of_mem _ (List.mem_singleton.2 rfl))
  refine ⟨.tup [.hs v (Lx.res tx L).length,.int .i64 0,.int .i64 0],_,?_,hm.trans (Qw.freeze (m:=[])),.inl ⟨L,_,v,hL,hLl,addF.old,rfl,rfl,aM (by rw [hlen];exact hok) (Lx.tokC_den _) (fun x _=>rfl)⟩⟩
  rw [hr];rfl
 ·exact ⟨.tup [.hs (.slice none 0 0) 0,.int .i64 at_,.int .i64 e],_,by rw [hr];rfl,hm,.inr ⟨hb,at_,e,he,rfl,rfl⟩⟩
def Lx.b (x:Lx.T):Lx.B:=⟨x.k,x.n,x.s⟩
namespace Lx
inductive O where
 | ok (l:List T)
 | bad (at_ e:Int)
def run (tx:List UInt8):Nat→Nat→List T→O
 | 0,_,_=>.bad 0 0
 | f+1,i,out=>if sk tx i=tx.length then .ok (out++[⟨4,0,[],tx.length⟩]) else match nextB (tx.drop (sk tx i)) with
  | none=>.bad (sk tx i:Nat) 10
  | some (b,n)=>if out.length=500 then .bad (sk tx i:Nat) 6 else run tx f (sk tx i+n) (out++[⟨b.k,b.n,b.s,(sk tx i:Nat)⟩])
def all (tx:List UInt8):O:=run tx (tx.length+1) 0 []
theorem run_more (tx:List UInt8):∀ (f g i:Nat) (out:List T),i≤tx.length→tx.length - i<f→tx.length - i<g→run tx f i out=run tx g i out
 | 0,g,i,out,_,h,_=>by omega
 | f+1,0,i,out,_,_,h=>by omega
 | f+1,g+1,i,out,hi,h1,h2=>by
  have hsk:=drop_sk tx i hi
  rw [run,run]
  by_cases hj:sk tx i=tx.length
  ·rw [if_pos hj,if_pos hj]
  ·rw [if_neg hj,if_neg hj]
   cases hn:nextB (tx.drop (sk tx i)) with
   | none=>rfl
   | some bn =>
    obtain ⟨b,n⟩:=bn
    have hp:=nextB_pos hn
    rw [List.length_drop] at hp
    dsimp only
    split
    ·rfl
    ·exact run_more tx f g _ _ (by omega) (by omega) (by omega)
theorem run_cases (tx:List UInt8):∀ (f i:Nat) (out:List T),St tx i out→tx.length - i<f →
  (∃ L,toks tx=some L∧L.length≤500∧run tx f i out = .ok (res tx L))∨(toks tx=none∧∃ a,run tx f i out = .bad a 10)∨(¬ good tx∧∃ a,run tx f i out = .bad a 6)
 | 0,i,out,_,h=>by omega
 | f+1,i,out,hst,h=>by
  have hsk:=drop_sk tx i hst.le
  rw [run]
  by_cases hj:sk tx i=tx.length
  ·rw [if_pos hj]
   obtain ⟨L,h1,h2,h3⟩:=hst.done hj
   exact .inl ⟨L,h1,h2,by rw [h3]⟩
  ·rw [if_neg hj]
   have hlt:sk tx i<tx.length:=by omega
   cases hn:nextB (tx.drop (sk tx i)) with
   | none =>
    obtain ⟨pre,h1,h2⟩:=hst.is
    rw [hsk.1] at hn
    have hne:skip (tx.drop i)≠[]:=by
     rw [← hsk.1];intro e2
     have:=congrArg List.length e2
     rw [List.length_drop] at this
     simp at this;omega
    rw [toks_none hne hn] at h2
    exact .inr (.inl ⟨h2,_,rfl⟩)
   | some bn =>
    obtain ⟨b,n⟩:=bn
    obtain ⟨g1,g2,g3,g4⟩:=hst.next hlt hn
    dsimp only
    by_cases hf:out.length=500
    ·rw [if_pos hf]
     exact .inr (.inr ⟨g4 hf,_,rfl⟩)
    ·rw [if_neg hf]
     have:=hst.few
     exact run_cases tx f _ _ (g3 (by omega)) (by omega)
theorem all_cases (tx:List UInt8) :
  (∃ L,toks tx=some L∧L.length≤500∧all tx = .ok (res tx L))∨(toks tx=none∧∃ a,all tx = .bad a 10)∨(¬ good tx∧∃ a,all tx = .bad a 6):=run_cases tx _ 0 [] (St.begin tx) (by omega)
end Lx
end Go.Proofs.YtmehinfgdcmmjaaGreatDoor
