import Derived.Test.YtmehinfgdcmmjaaGreatJ12
import Derived.Sort.OwnSortedInts
import Derived.Test.YtmehinfgdcmmjaaGreatSxC
import Derived.RangeFuncNested
import Derived.RangeFuncLeaves
import Derived.TacticsIn
import Derived.RangeFuncRecord
namespace Go.Proofs.YtmehinfgdcmmjaaGreat
open Go.Sx
set_option maxRecDepth 20000
set_option maxHeartbeats 4000000
set_option linter.unusedVariables false
section
open Go.Sort Go.Proofs Go.RowKit
theorem dv {w:World} {g:Nat} {cur:Array Value} {e:TypeId} {ss:List Value} (hb:w.heap[g]?=some (.cells cur e (0,0))) (ht:cur.toList.take ss.length=ss):Holds id w g 0 ss.toArray:=by
 intro j hj
 have hj':j<ss.length:=by simpa using hj
 refine ⟨?_,by simp [World.frozen?,hb]⟩
 have h1:(cur.toList.take ss.length)[j]?=ss[j]?:=by rw [ht]
 rw [List.getElem?_take_of_lt hj'] at h1
 simp only [World.cell?,hb,Nat.zero_add]
 simp only [Option.isSome_none,Bool.false_eq_true,if_false]
 rw [← Array.getElem?_toList,h1]
 simp [hj']
theorem fL {w:World} {g n:Nat} {os:Array Obj} {cur:Array Value} {e:TypeId} {fr:Nat × Nat} (d:Array Value) (hb:w.heap[g]?=some (.cells cur e fr)) :
  (grow (putRow id (Sort.ahead w n) g 0 d) os).heap[g]?=some (.cells (putCells id 0 d cur) e fr):=by
 have hg:g<w.heap.size:=(Array.getElem?_eq_some_iff.1 hb).1
 rw [heap_grow_old _ _ (by simpa using hg)]
 simp [putRow,mapBlock,Sort.ahead,Array.getElem?_modify,hb,onCells]
theorem dw {w:World} {g n:Nat} {os:Array Obj} (d:Array Value):w.grownBy (grow (putRow id (Sort.ahead w n) g 0 d) os) (some g):=by
 refine ⟨rfl,rfl,rfl,by simp,fun k hk hne=>?_⟩
 rw [heap_grow_old _ _ (by simpa using hk)]
 have:g≠k:=fun e=>hne (by rw [e])
 simp [putRow,mapBlock,Sort.ahead,Array.getElem?_modify,this]
theorem dz (cur:Array Value) (ts:List Value) (h:ts.length≤cur.size):(putCells id 0 ts.toArray cur).toList.take ts.length=ts:=by
 apply List.ext_getElem?
 intro j
 by_cases hj:j<ts.length
 ·rw [List.getElem?_take_of_lt hj,Array.getElem?_toList]
  simp [putCells,hj,show j<cur.size by omega]
 ·rw [List.getElem?_take_eq_none (by omega),List.getElem?_eq_none (by omega)]
end
namespace Po
instance:Inhabited S:=⟨⟨0,0,0,0,0⟩⟩
def savs (L:List S):List AV:=L.flatMap S.av
theorem savs_den:∀ L:List S,denL (savs L)=L.flatMap S.vs
 | []=>rfl
 | s::L=>by
  have:=savs_den L
  unfold savs at *
  rw [List.flatMap_cons,List.flatMap_cons,aQ,this]
  rfl
theorem savs_len (L:List S):(savs L).length=L.length*5:=by
 induction L with
 | nil=>rfl
 | cons s L ih=>unfold savs at *;rw [List.flatMap_cons,List.length_append,ih,List.length_cons];simp [S.av];omega
theorem savs_append (L M:List S):savs (L++M)=savs L++savs M:=by unfold savs;rw [List.flatMap_append]
theorem vs_len (s:S):s.vs.length=5:=rfl
theorem flat_at:∀ (L:List S) (i j:Nat),i<L.length→j<5→(L.flatMap S.vs)[i*5+j]?=(L.getD i default).vs[j]?
 | [],i,j,hi,_=>by simp at hi
 | s::L,0,j,_,hj=>by
  rw [List.flatMap_cons,List.getElem?_append_left (by rw [vs_len];omega)]
  simp
 | s::L,i+1,j,hi,hj=>by
  rw [List.flatMap_cons,List.getElem?_append_right (by rw [vs_len];omega),vs_len,show (i+1)*5+j - 5=i*5+j by omega,flat_at L i j (by simpa using hi) hj]
  simp
theorem flat_len (L:List S):(L.flatMap S.vs).length=L.length*5:=by
 rw [← savs_den,aE,savs_len]
theorem flatK_eq (L:List S):Go.Sort.flatK S.vs 5 L.toArray=(L.flatMap S.vs).toArray:=by
 apply Array.ext
 ·rw [Go.Sort.size_flatK];simp only [List.size_toArray,flat_len]
 ·intro t h1 h2
  rw [Go.Sort.size_flatK,List.size_toArray] at h1
  have e:=Go.Sort.get_flatK S.vs 5 L.toArray t (by simpa using h1)
  rw [getElem!_pos _ t (by rw [Go.Sort.size_flatK,List.size_toArray];exact h1)] at e
  rw [e]
  have hi:t / 5<L.length:=by omega
  have hj:t % 5<5:=by omega
  have h3:=flat_at L (t / 5) (t % 5) hi hj
  rw [show t / 5*5+t % 5=t by omega] at h3
  have h4:(L.flatMap S.vs)[t]?=some ((L.flatMap S.vs)[t]'(by simpa using h2)):=List.getElem?_eq_getElem _
  rw [h4,List.getD_eq_getElem?_getD,List.getElem?_eq_getElem hi,Option.getD_some,List.getElem?_eq_getElem (by rw [vs_len];exact hj)] at h3
  injection h3 with h3
  rw [List.getElem_toArray,h3]
  have h5:L.toArray[t / 5]! = L[t / 5]:=by rw [getElem!_pos _ _ (by simpa using hi)];simp
  rw [h5,getElem!_pos _ _ (by rw [vs_len];exact hj)]
end Po
namespace Po
def okPre (N:List S) (seen:Array Nat) (pre:List S):Prop:=seen.toList.Nodup∧(∀ i∈seen.toList,i<N.length)∧pre=seen.toList.map fun i=>N.getD i default
theorem okPre_start (N:List S):okPre N #[] []:=⟨List.nodup_nil,fun i h=>by simp at h,rfl⟩
theorem okPre_push {N:List S} {seen:Array Nat} {pre:List S} {i:Nat} {t:S} (h:okPre N seen pre) (hi:N[i]?=some t) (hs:seen.contains i=false):okPre N (seen.push i) (pre++[t]):=by
 obtain ⟨h1,h2,h3⟩:=h
 have hlt:=(List.getElem?_eq_some_iff.1 hi).1
 have hno:i ∉ seen.toList:=fun hm=>by
  have:=Array.contains_iff_mem.2 (Array.mem_toList_iff.1 hm)
  rw [hs] at this
  cases this
 refine ⟨?_,fun j hj=>?_,?_⟩
 ·rw [Array.toList_push,List.nodup_append]
  exact ⟨h1,by simp,fun a ha b hb e=>by rw [List.mem_singleton.1 hb] at e;exact hno (e ▸ ha)⟩
 ·rw [Array.toList_push,List.mem_append] at hj
  rcases hj with hj | hj
  ·exact h2 j hj
  ·rw [List.mem_singleton.1 hj];exact hlt
 ·rw [Array.toList_push,List.map_append,h3]
  simp [List.getD_eq_getElem?_getD,hi]
theorem nodup_lenN:∀ (a b:List Nat),a.Nodup→(∀ x∈a,x∈b)→a.length≤b.length
 | [],_,_,_=>Nat.zero_le _
 | x::a,b,hn,hs=>by
  rw [List.nodup_cons] at hn
  have hx:x∈b:=hs x (by simp)
  have:=nodup_lenN a (b.erase x) hn.2 fun y hy=>(List.mem_erase_of_ne (fun e=>hn.1 (by rw [← e];exact hy))).2 (hs y (by simp [hy]))
  rw [List.length_erase_of_mem hx] at this
  have:=List.length_pos_of_mem hx
  rw [List.length_cons]
  omega
theorem okPre_lt {N:List S} {seen:Array Nat} {pre:List S} {i:Nat} {t:S} (h:okPre N seen pre) (hi:N[i]?=some t) (hs:seen.contains i=false):pre.length<N.length:=by
 obtain ⟨h1,h2,h3⟩:=okPre_push h hi hs
 have:=nodup_lenN _ (List.range N.length) h1 fun j hj=>List.mem_range.2 (h2 j hj)
 rw [List.length_range] at this
 have e:=congrArg List.length h3
 rw [List.length_map,List.length_append,List.length_singleton] at e
 omega
theorem okPre_end {N:List S} {seen:Array Nat} {pre:List S} (h:okPre N seen pre) (hall:∀ i,i<N.length→seen.contains i=true):pre.Perm N:=by
 obtain ⟨h1,h2,h3⟩:=h
 have hp:seen.toList.Perm (List.range N.length):=by
  rw [List.perm_iff_count]
  intro i
  have hr:(List.range N.length).Nodup:=List.nodup_range
  rw [h1.count,hr.count]
  have e:i∈seen.toList↔i∈List.range N.length:=⟨fun hm=>List.mem_range.2 (h2 i hm),fun hm=>Array.mem_toList_iff.2 (Array.contains_iff_mem.1 (hall i (List.mem_range.1 hm)))⟩
  simp only [e]
 have hm:(List.range N.length).map (fun i=>N.getD i default)=N:=by
  apply List.ext_getElem?
  intro i
  rw [List.getElem?_map]
  by_cases hi:i<N.length
  ·rw [List.getElem?_range hi,List.getElem?_eq_getElem hi]
   simp [List.getD_eq_getElem?_getD,hi]
  ·rw [List.getElem?_eq_none (by rw [List.length_range];omega),List.getElem?_eq_none (by omega)];rfl
 rw [h3]
 exact (hp.map _).trans (by rw [hm])
theorem sorted_eq {N L R:List S} (hp:L.Perm N) (hn:N.Nodup) (hs:L.Pairwise (fun x y=>¬ ahead y x)) (hR:Rising R) (hm:∀ t,t∈N↔t∈R):L=R:=by
 refine rising_eq ?_ hR fun t=>(hp.mem_iff).trans (hm t)
 have hnd:L.Nodup:=hp.nodup_iff.2 hn
 refine (hs.and hnd).imp fun {x y} h=>Classical.byContradiction fun hna=>h.2 (ahead_or hna h.1)
end Po
end Go.Proofs.YtmehinfgdcmmjaaGreat
namespace Go.Sx
open Go.RowKit
section
variable {P:Program}
theorem iP {sl:List AV} {m:List Blk} {op:Op} {K:AV→List Blk→Prop} (h:opM P sl m op K):∀ c,op≠.defer c:=by
 rintro c rfl
 simp only [opM,opV] at h
theorem jR {lp n:Nat} {o:Oper} {a:Act} {w:World} {next:Act→World→Prop} {Q:Exit→Act→World→Prop} (hd:∀ c,o.op≠.defer c) (h:o.wp P a w next Q):o.wpIn (Fence.wide.inRound lp) n P a w next Q:=by
 refine ⟨fun _ _=>trivial,?_⟩
 rw [Oper.semAt_eq _ _ _ hd]
 unfold Oper.wp at h
 generalize (execOp a.eval o).run P w=r at *
 cases r with
 | ok x w' =>
  cases x with
  | value v=>exact h
  | skip=>exact h
  | defer d=>exact h
  | enter f args=>exact ⟨fun h=>by simp [Fence.wide] at h,CallsIn.inRound lp (callsIn_wide.2 h)⟩
  | row r args=>exact ⟨fun h=>by simp [Fence.wide] at h,fun c cs _=>let ⟨v,w',r,s⟩:=h c cs;⟨v,w',r,stepsIn_wide.2 s⟩⟩
  | _=>exact h.elim
 | halt hl w' =>
  cases hl with
  | panic v=>exact h
  | _=>exact h.elim
theorem qO {lp n:Nat} {w0:World} {S:Own} {ops:Array Oper} {l:List Oper} {sl:List AV} {m:List Blk} {k:List AV→List Blk→Prop} (h:opsK P ops l sl m k) {a:Act} {w:World} (hsim:Sim w0 S sl m a w)
  {Q:Exit→Act→World→Prop} (hk:∀ sl m a w,k sl m→Sim w0 S sl m a w→Q .normal a w):wpListIn (Fence.wide.inRound lp) n P ops Q l a w:=by
 induction l generalizing sl m a w with
 | nil=>exact hk _ _ _ _ h hsim
 | cons o rest ih =>
  simp only [opsK] at h
  have run:(opM P sl m o.op fun v m'=>dstK sl o.dst v fun sl'=>opsK P ops rest sl' m' k)→o.wpIn (Fence.wide.inRound lp) n P a w (wpListIn (Fence.wide.inRound lp) n P ops Q rest) Q:=fun h =>
   jR (iP h) <| bZ hsim.slots hsim.mem hsim.fr hsim.fresh h fun v m' w' hl=>by
    obtain ⟨sl',h1,h2⟩:=aI hl.k hsim.slots
    exact ih h1 (hsim.step h2 hl.mem hl.fr hl.fresh)
  unfold wpListIn
  split at h
  ·rename_i hg
   rw [if_pos (by simp [Region.wanted,hg])]
   exact run h
  ·rename_i j want hg
   rcases ad h hsim.slots hg with ⟨h1,h2⟩ | ⟨h1,h2⟩
   ·rw [if_pos h1]
    exact run h2
   ·rw [if_neg (by simp [h1])]
    obtain ⟨sl',h3,h4⟩:=aI h2 hsim.slots
    exact ⟨fun _ _=>trivial,ih h3 (hsim.step h4 hsim.mem hsim.fr hsim.fresh)⟩
def gz:Code→Bool
 | .skip=>true
 | .region _ _ draw=>!draw
 | .seq a b=>gz a&&gz b
 | .cond _ a b=>gz a&&gz b
 | .block _ c=>gz c
 | .exit _=>true
 | .ret=>true
 | .label _=>true
 | _=>false
theorem pX {lp n:Nat} {w0:World} {S:Own} {c:Code}:∀ {sl:List AV} {m:List Blk} {Q:Post},gz c=true→codeK P c sl m Q→∀ {a:Act} {w:World},Sim w0 S sl m a w →
  c.wpIn (Fence.wide.inRound lp) n P (fun e a w=>∃ sl m,Q e sl m∧Sim w0 S sl m a w) a w:=by
 induction c with
 | skip=>intro sl m Q _ h a w hs;exact wpIn_skip ⟨_,_,h,hs⟩
 | region id ops draw =>
  intro sl m Q hf h a w hs
  cases draw with
  | false=>exact wpIn_region_list (qO h hs fun sl m a w h1 h2=>⟨sl,m,h1,h2⟩)
  | true=>cases hf
 | seq x y ihx ihy =>
  intro sl m Q hf h a w hs
  simp only [gz,Bool.and_eq_true] at hf
  refine wpIn_seq (wpIn_mono (ihx hf.1 h hs) fun e a w hq=>?_)
  obtain ⟨sl',m',h1,h2⟩:=hq
  cases e with
  | normal=>exact ihy hf.2 h1 h2
  | _=>exact ⟨sl',m',h1,h2⟩
 | cond c x y ihx ihy =>
  intro sl m Q hf h a w hs
  simp only [gz,Bool.and_eq_true] at hf
  obtain ⟨v,h1,h2⟩:=aF hs.slots h
  cases v<;>try exact h1.elim
  rename_i t
  simp only [cL] at h1
  refine wpIn_cond_split (t:=t) (by rw [h2];rfl) (fun ht=>ihx hf.1 (h1.1 ht) hs) (fun ht=>ihy hf.2 (h1.2 ht) hs)
 | block id c ih =>
  intro sl m Q hf h a w hs
  refine wpIn_block (wpIn_mono (ih hf h hs) fun e a w hq=>?_)
  obtain ⟨sl',m',h1,h2⟩:=hq
  cases e with
  | exit j =>
   simp only [Exit.inBlock]
   split at h1
   ·rename_i hj;injection hj with hj;subst hj
    split at h1
    ·rename_i heq _;rw [if_pos heq];exact ⟨sl',m',h1,h2⟩
    ·rename_i heq _;rw [if_neg heq];exact ⟨sl',m',h1,h2⟩
   ·rename_i hne;exact (hne _ rfl).elim
  | _=>exact ⟨sl',m',h1,h2⟩
 | exit id=>intro sl m Q _ h a w hs;exact wpIn_exit ⟨_,_,h,hs⟩
 | label l=>intro sl m Q _ h a w hs;exact wpIn_label ⟨_,_,h,hs⟩
 | ret=>intro sl m Q _ h a w hs;exact wpIn_ret ⟨_,_,h,hs⟩
 | _=>intro sl m Q hf;cases hf
def mn (m:List Blk) (w:World):World→World→Prop:=fun A B=>A.heap.size≤B.heap.size∧(∀ b,b<w.heap.size→¬ wrs m b→B.heap[b]?=A.heap[b]?)∧∀ (r:Nat) (o:Obj),w.heap.size≤r→A.heap[r]?=some o→o.isWalk=true→B.heap[r]?=some o
def dU (m:List Blk) (k:Blk):Prop :=
 match k.kind with
 | .var _=>True
 | .row ..=>True
 | .obj _=>False
 | .res _=>False
 | _=>k∈m
theorem gy {m m1:List Blk} {w W:World} (hm:MemOk m w) (h1:MemOk m1 W) (hp:∀ k∈m1,dU m k) {k:Blk} (hk:k∈m1) {b:Nat} (hb:k.foot b):b<w.heap.size∨∃ o:Obj,W.heap[b]?=some o∧o.isCells=true:=by
 have h2:=h1.holds k hk
 have h3:=hp k hk
 obtain ⟨a,cs,kind⟩:=k
 cases kind with
 | var t =>
  right
  simp only [Blk.foot,Blk.bn,Option.some.injEq] at hb
  subst hb
  exact ⟨_,h2.2.2,rfl⟩
 | row v t sz n =>
  right
  simp only [Blk.foot,Blk.bn] at hb
  rcases h2.1.2 with ⟨rfl,_⟩ | ⟨g,cap,cur,rfl,_,hg,_⟩
  ·simp [Value.ownBlock] at hb
  ·simp only [Value.ownBlock,Option.some.injEq] at hb
   subst hb
   exact ⟨_,hg,rfl⟩
 | ro v sz n=>exact .inl ((hm.holds _ h3).lt hb)
 | heap F=>exact .inl ((hm.holds _ h3).lt hb)
 | obj o=>exact h3.elim
 | res R=>exact h3.elim
theorem oG {m:List Blk} {W:World} (h1:MemOk m W) (hno:∀ k∈m,(∀ o,k.kind≠.obj o)∧∀ R,k.kind≠.res R) {b:Nat} (hb:wrs m b):∃ o:Obj,W.heap[b]?=some o∧o.isCells=true:=by
 obtain ⟨k,hk,hw,hbn⟩:=hb
 have h2:=h1.holds k hk
 obtain ⟨a,cs,kind⟩:=k
 cases kind with
 | var t =>
  simp only [Blk.foot,Blk.bn,Option.some.injEq] at hbn
  subst hbn
  exact ⟨_,h2.2.2,rfl⟩
 | row v t sz n =>
  simp only [Blk.foot,Blk.bn] at hbn
  rcases h2.1.2 with ⟨rfl,_⟩ | ⟨g,cap,cur,rfl,_,hg,_⟩
  ·simp [Value.ownBlock] at hbn
  ·simp only [Value.ownBlock,Option.some.injEq] at hbn
   subst hbn
   exact ⟨_,hg,rfl⟩
 | ro v sz n=>cases hw
 | heap F=>cases hw
 | obj o=>exact ((hno _ hk).1 o rfl).elim
 | res R=>exact ((hno _ hk).2 R rfl).elim
def mg (m:List Blk) (w:World) (mm:List Blk→Prop) (W:World):Prop:=∃ m1,mm m1∧(∀ k∈m1,dU m k)∧MemOk m1 W∧Fr (wrs m) w W∧Fresh (own m) w m1
theorem lD {β:Type} {m:List Blk} {w:World} (hm:MemOk m w) (mm:β→List Blk→Prop):OwnFrom w.heap.size fun x W=>mg m w (mm x) W:=by
 rintro s W W' row ⟨m1,h1,h2,h3,h4,h5⟩ hg hr
 refine ⟨m1,h1,h2,h3.keep hg.size fun k hk b hb=>hg.block b ((h3.holds k hk).lt hb) fun e=>?_,⟨hg.os.trans h4.os,hg.tape.trans h4.tape,hg.output.trans h4.output,Nat.le_trans h4.size hg.size,fun k hk hs=>?_⟩,h5⟩
 ·obtain ⟨h6,o,h7,h8⟩:=hr b e.symm
  rcases gy hm h3 h2 hk hb with h | ⟨o',h9,h10⟩
  ·omega
  ·rw [h7] at h9;injection h9 with h9;subst h9;rw [h8] at h10;cases h10
 ·refine (hg.block k (Nat.lt_of_lt_of_le hk h4.size) fun e=>?_).trans (h4.block k hk hs)
  obtain ⟨h6,_⟩:=hr k e.symm
  omega
theorem MemOk.and_one {m:List Blk} {W:World} (h:MemOk m W) {b:Nat} {cs:List AV} {t:TypeId} (hb:W.heap[b]?=some (.cells (denL cs).toArray t (0,0))) (hf:¬ foots m b):MemOk (m++[⟨⟨b,0,none⟩,cs,.var t⟩]) W:=by
 refine ⟨fun k hk=>?_,List.pairwise_append.2 ⟨h.sep,by simp,fun x hx y hy=>?_⟩⟩
 ·rcases List.mem_append.1 hk with hk | hk
  ·exact h.holds k hk
  ·rw [List.mem_singleton] at hk
   subst hk
   exact ⟨rfl,rfl,hb⟩
 ·rw [List.mem_singleton] at hy
  subst hy
  intro _ b' h1 h2
  simp only [Blk.foot,Blk.bn,Option.some.injEq] at h2
  subst h2
  exact hf ⟨x,hx,h1⟩
theorem gb {lp n:Nat} {m m1:List Blk} {w W:World} {c:Code} (hf:gz c=true) {sl:List AV} {a:Act} (hs:SlotsOk sl a.tmps) (hd:a.defers=[]) (hsz:w.heap.size≤W.heap.size) (h3:MemOk m1 W) (hno:∀ k∈m1,(∀ o,k.kind≠.obj o)∧∀ R,k.kind≠.res R) (h4:Fr (wrs m) w W) (h5:Fresh (own m) w m1) {Q:Post} (h:codeK P c sl m1 Q)
  {R:Exit→Act→World→Prop} (hR:∀ e a' sl' m2 W',Q e sl' m2→Fresh (own m1) W m2→SlotsOk sl' a'.tmps→a'.defers=[]→MemOk m2 W'→KeepsFrom w.heap.size W W'→mn m w W W'→Fr (wrs m) w W'→Fresh (own m) w m2→W.heap.size≤W'.heap.size→R e a' W') :
  c.wpIn (Fence.wide.inRound lp) n P R a W:=by
 refine wpIn_mono (pX (w0:=W) (S:=own m1) hf h ⟨hs,hd,h3,Fr.refl _ W,fun b hb=>.inl hb,fun b hb=>.inl hb⟩) fun e a' W' hq=>?_
 obtain ⟨sl',m2,h6,h8⟩:=hq
 have hwr:∀ b,wrs m1 b→wrs m b∨w.heap.size≤b:=h5.1
 have hkf:KeepsFrom w.heap.size W W':=⟨h8.fr.size,fun k o _ hk hc=>by
  refine (h8.fr.block k (Array.getElem?_eq_some_iff.1 hk).1 fun hw=>?_).trans hk
  obtain ⟨o',h9,h10⟩:=oG h3 hno hw
  rw [hk] at h9;injection h9 with h9;subst h9;rw [hc] at h10;cases h10⟩
 refine hR e a' sl' m2 W' h6 h8.fresh h8.slots h8.defers h8.mem hkf ⟨h8.fr.size,fun b hb hn=>?_,fun r o hr hro ho=>hkf.same r o hr hro (by cases o<;>first | rfl | cases ho)⟩ ?_ ?_ h8.fr.size
 ·exact h8.fr.block b (Nat.lt_of_lt_of_le hb hsz) fun hw=>(hwr b hw).elim hn fun h=>by omega
 ·exact ⟨h8.fr.os.trans h4.os,h8.fr.tape.trans h4.tape,h8.fr.output.trans h4.output,Nat.le_trans hsz h8.fr.size,fun k hk hs=>(h8.fr.block k (Nat.lt_of_lt_of_le hk hsz) fun hw=>(hwr k hw).elim hs fun h=>by omega).trans (h4.block k hk hs)⟩
 ·refine ⟨fun b hb=>?_,fun b hb=>?_⟩
  ·rcases h8.fresh.1 b hb with h | h
   ·exact hwr b h
   ·exact .inr (Nat.le_trans hsz h)
  ·rcases h8.fresh.2 b hb with h | h
   ·exact h5.2 b h
   ·exact .inr (Nat.le_trans hsz h)
def p7 (P:Program) (gf:Nat) (lb:List AV) (m:List Blk) {α:Type} (encs:α→List AV) (S:List α→Prop) (N:Nat):Prop :=
 ∀ w,MemOk m w→SeqStopsK Fence.wide 0 P gf (denL lb).toArray (fun x=>(denL (encs x)).toArray) (mn m w) S (fun _=>True) N w
theorem MemOk.still {m1:List Blk} {F:Heap} {w A B:World} (hm:MemOk m1 w) (hF:hpB F∈m1) (h:MemOk [hpB F] A) (hs:mn m1 w A B):MemOk [hpB F] B:=by
 refine h.keep hs.1 fun k hk b hb=>?_
 rw [List.mem_singleton] at hk
 subst hk
 refine hs.2.1 b ((hm.holds _ hF).lt hb) fun ⟨k',hk',hw,hbn⟩=>?_
 obtain ⟨i,hi⟩:=List.getElem?_of_mem hF
 obtain ⟨j,hj⟩:=List.getElem?_of_mem hk'
 have hne:i≠j:=fun e=>by
  subst e
  rw [hi] at hj
  injection hj with hj
  subst hj
  cases hw
 exact cB hm.sep hne hi hj (.inr hw) b hb hbn
theorem MemOk.one_of {m1:List Blk} {F:Heap} {w:World} (hm:MemOk m1 w) (hF:hpB F∈m1):MemOk [hpB F] w :=
 ⟨fun k hk=>by rw [List.mem_singleton] at hk;subst hk;exact hm.holds _ hF,by simp⟩
theorem kK {n:Nat} {o:Oper} {a:Go.Act} {w:World} {next:Go.Act→World→Prop} {Q:Exit→Go.Act→World→Prop} (h:o.wp P a w next Q):o.wpIn Fence.wide n P a w next Q:=by
 refine ⟨fun _ _=>trivial,?_⟩
 rw [show o.semAt Fence.wide.round a.eval=execOp a.eval o from Oper.semAt_none _ _]
 unfold Oper.wp at h
 generalize (execOp a.eval o).run P w=r at *
 cases r with
 | ok x w' =>
  cases x with
  | value v=>exact h
  | skip=>exact h
  | defer d=>exact h
  | enter f args=>exact ⟨fun h=>by simp [Fence.wide] at h,callsIn_wide.2 h⟩
  | row r args=>exact ⟨fun h=>by simp [Fence.wide] at h,fun c cs _=>let ⟨v,w',r,s⟩:=h c cs;⟨v,w',r,stepsIn_wide.2 s⟩⟩
  | _=>exact h.elim
 | halt hl w' =>
  cases hl with
  | panic v=>exact h
  | _=>exact h.elim
theorem ib {n:Nat} {w0:World} {S:Own} {ops:Array Oper} {l l2:List Oper} {sl:List AV} {m:List Blk} {k:List AV→List Blk→Prop} (h:opsK P ops l sl m k) {a:Go.Act} {w:World} (hsim:Sim w0 S sl m a w)
  {Q:Exit→Go.Act→World→Prop} (hk:∀ sl m a w,k sl m→Sim w0 S sl m a w→wpListIn Fence.wide n P ops Q l2 a w):wpListIn Fence.wide n P ops Q (l++l2) a w:=by
 induction l generalizing sl m a w with
 | nil=>exact hk _ _ _ _ h hsim
 | cons o rest ih =>
  simp only [opsK] at h
  have run:(opM P sl m o.op fun v m'=>dstK sl o.dst v fun sl'=>opsK P ops rest sl' m' k)→o.wpIn Fence.wide n P a w (wpListIn Fence.wide n P ops Q (rest++l2)) Q:=fun h =>
   kK <| bZ hsim.slots hsim.mem hsim.fr hsim.fresh h fun v m' w' hl=>by
    obtain ⟨sl',h1,h2⟩:=aI hl.k hsim.slots
    exact ih h1 (hsim.step h2 hl.mem hl.fr hl.fresh)
  rw [List.cons_append]
  unfold wpListIn
  split at h
  ·rename_i hg
   rw [if_pos (by simp [Region.wanted,hg])]
   exact run h
  ·rename_i j want hg
   rcases ad h hsim.slots hg with ⟨h1,h2⟩ | ⟨h1,h2⟩
   ·rw [if_pos h1]
    exact run h2
   ·rw [if_neg (by simp [h1])]
    obtain ⟨sl',h3,h4⟩:=aI h2 hsim.slots
    exact ⟨fun _ _=>trivial,ih h3 (hsim.step h4 hsim.mem hsim.fr hsim.fresh)⟩
theorem kJ {n:Nat} {w0:World} {S:Own} {ops:Array Oper} {l:List Oper} {sl:List AV} {m:List Blk} {k:List AV→List Blk→Prop} (h:opsK P ops l sl m k) {a:Go.Act} {w:World} (hsim:Sim w0 S sl m a w)
  {Q:Exit→Go.Act→World→Prop} (hk:∀ sl m a w,k sl m→Sim w0 S sl m a w→Q .normal a w):wpListIn Fence.wide n P ops Q l a w:=by
 have:=ib (n:=n) (l2:=[]) (Q:=Q) h hsim hk
 rwa [List.append_nil] at this
theorem lJ {n lp:Nat} {ops:Array Oper} {o:Oper} {rest:List Oper} {f:Operand} {ars:Array Operand} {tys:Array TypeId} (hop:o.op = .call { callee:=.value f,args:=ars,argTypes:=tys }) (hg:o.guard=none) {a:Go.Act} {W:World} {vs:Array Value}
  (hf:a.eval f = .func (.yield lp) #[] #[]) (has:ars.map a.eval=vs) {Q:Exit→Go.Act→World→Prop} {R:Ending→World→Prop} (hY:YieldAt Fence.wide (n - 1) P lp vs W R)
  (hR:∀ e w',R e w'→∃ v,e = .returned v∧wpListIn Fence.wide n P ops Q rest (a.put o.dst v) w'):wpListIn Fence.wide n P ops Q (o::rest) a W:=by
 unfold wpListIn
 rw [if_pos (by simp [Region.wanted,hg])]
 refine ⟨fun _ _=>trivial,?_⟩
 rw [show o.semAt Fence.wide.round a.eval=execOp a.eval o from Oper.semAt_none _ _]
 obtain ⟨fn,tmps,assign,body,hy,hround⟩:=hY
 have e:(execOp a.eval o).run P W = .ok (.round lp fn tmps assign body) W:=by
  simp only [execOp,hop,resolve,hf,Deferred.ofValue,has,Sem.run_bind,Sem.run_pure,Result.andThen_ok,invoke]
  simpa using hy
 rw [e]
 refine ⟨fun h=>by simp [Fence.wide] at h,hround.mono fun e w' hr=>?_⟩
 obtain ⟨v,rfl,h⟩:=hR e w' hr
 exact h
def kD:List AV→List Tmp→List AV→List AV
 | sl,p::ps,v::vs=>kD (sl.set p v) ps vs
 | sl,_,_=>sl
theorem mU:∀ {ps:List Tmp} {vs:List AV} {sl:List AV} {tmps:Array Value},SlotsOk sl tmps→SlotsOk (kD sl ps vs) ((ps.zip (denL vs)).foldl (fun t (p,v)=>t.setIfInBounds p v) tmps)
 | [],vs,sl,tmps,h=>by cases vs<;>exact h
 | p::ps,[],sl,tmps,h=>h
 | p::ps,v::vs,sl,tmps,h=>by
  simp only [kD,denL,List.zip_cons_cons,List.foldl_cons]
  exact mU (h.set p v)
structure p8 (m:List Blk) {β:Type} (mm:β→List Blk→Prop) (Foot:World→Nat→Prop) (w:World):Prop where
 iff:∀ x m1 W,mm x m1→MemOk m1 W→∀ b,w.heap.size≤b→(foots m1 b↔Foot W b)
 old:∀ W W' row b,w.heap.size≤W.heap.size→W.grownBy W' row→(∀ r,row=some r→w.heap.size≤r)→Foot W' b→Foot W b
theorem jS {f : FuncId} {fn : Func} {r0 r3 B assign body : Code} {id : Nat} {g : Operand} {ps : Array Tmp} (hf : P.funcs[f]? = some fn) (hc : fn.body = some (.seq r0 (.seq (.seq r3 (.block id (.rangeFunc g ps assign body))) B))) (hn : (fn.name == "runtime.NumGoroutine") = false)
  {args:List AV} {m:List Blk} {K:AV→List Blk→Prop} (hassign:gz assign=true) (hbody:gz body=true) {α:Type} (encs csx:α→List AV) (q:Tmp) (t:TypeId) (Sx:List α→Prop) (N:Nat) (mm:List AV→List α→List Blk→Prop) (hps:∀ x,(encs x).length=ps.size)
  (h:argK args fn.ntmps fun sl=>codeK P (.seq r0 r3) sl m fun e sl m0=>e = .normal∧∃ gf lb m1,MemFits m0 m1∧evK sl g (fun v=>v.den=(AV.fn gf [] lb).den)∧(∀ (ars:Array Value) (w:World),(callFunc gf ars).run P w = .ok (.enter gf ars) w)∧p7 P gf lb m1 encs Sx N∧mm sl [] m1∧(∀ k∈m1,dU m1 k) ∧
   (∀ w,MemOk m1 w→∃ Foot,p8 m1 (mm sl) Foot w) ∧
   (∀ pre x m2,mm sl pre m2→codeK P assign (kD sl ps.toList (encs x)) m2 fun e sl' m'=>e = .normal∧∃ b,m'=m2++[⟨⟨b,0,none⟩,csx x,.var t⟩]∧sl'=(kD sl ps.toList (encs x)).set q (.ptr m2.length ⟨b,0,none⟩ 0)) ∧
   (∀ pre x b m2,pre.length<N→mm sl pre m2→codeK P body ((kD sl ps.toList (encs x)).set q (.ptr m2.length ⟨b,0,none⟩ 0)) (m2++[⟨⟨b,0,none⟩,csx x,.var t⟩]) fun e _ m3=>e = .normal∧∃ m4,MemFits m3 m4∧mm sl (pre++[x]) m4∧∀ k∈m4,dU m1 k) ∧
   ∀ xs m2,Sx xs→mm sl xs m2→codeK P B sl m2 fun e sl' m'=>match e with
    | .normal=>resK P m' sl' fn.results.toList fun xs=>retK xs fun r=>K r m'
    | .ret=>resK P m' sl' fn.results.toList fun xs=>retK xs fun r=>K r m'
    | _=>False):NCall P f args m K:=by
 rw [aM]
 refine ⟨enters_of hf (by rw [hc];rfl) hn,fun w0 hm0=>?_⟩
 obtain ⟨hlen,h⟩:=db h
 have hsim:Sim w0 (own m) (args++List.replicate (fn.ntmps - args.length) .any) m { tmps:=(denL args).toArray++Array.replicate (fn.ntmps - (denL args).toArray.size) undef,defers:=[] } w0 :=
  ⟨ee hlen,rfl,hm0,Fr.refl _ w0,fun b hb=>.inl hb,fun b hb=>.inl hb⟩
 refine (callsIn_wide (n:=1)).1 (callsIn_of_wp_marks hf hc trivial (wpIn_seq ?_) rfl)
 refine wpIn_mono (wpIn_wide.2 (ag (c:=r0) h hsim)) fun e a w hq=>?_
 obtain ⟨sl,m0',hq,hsim⟩:=hq
 cases e<;>try (exact absurd hq.1 (by simp))
 refine wpIn_seq (wpIn_seq (wpIn_mono (wpIn_wide.2 (ag (c:=r3) hq hsim)) fun e a w hq=>?_))
 obtain ⟨sl,m0',⟨rfl,gf,lb,m1,hfits,hg,heg,hgive,hm1,hpl,hfoot,hasg,hround,hrest⟩,hs0⟩:=hq
 refine wpIn_block ?_
 obtain ⟨_,hgd,hge⟩:=aF hs0.slots hg
 have hd:a.defers=[]:=hs0.defers
 have hmw:MemOk m1 w:=(hfits w hs0.mem).1
 have hfresh0:Fresh (own m) w0 m1:=⟨fun b hb=>hs0.fresh.1 b ((hfits w hs0.mem).2.1 b hb),fun b hb=>hs0.fresh.2 b ((hfits w hs0.mem).2.2 b hb)⟩
 have hseq:=hgive w hmw
 obtain ⟨Foot,hF⟩:=hfoot w hmw
 refine wpIn_rangeFunc_ownH (F:=Fence.wide) (n:=1) rfl (Nat.le_refl 1) (gf:=gf) (lb:=(denL lb).toArray) (by rw [hge,hgd];rfl) trivial heg hseq
  (fun h1 h2=>⟨Nat.le_trans h1.1 h2.1,fun b hb hn=>(h2.2.1 b hb hn).trans (h1.2.1 b hb hn),fun r o hr h3 h4=>h2.2.2 r o hr (h1.2.2 r o hr h3 h4) h4⟩) (fun W l o o' hl hlo _ hw=>⟨by simp [World.putObj],fun b hb _=>World.putObj_heap_other (by omega),fun r o2 hr h3 h4=>by
   rw [World.putObj_heap_other fun e=>?_];exact h3
   subst e;rw [hlo] at h3;injection h3 with h3;subst h3;rw [hw] at h4;cases h4⟩) (Below.refl _ w) (fun x=>by simp [aE,hps x])
  (fun ys W=>mg m1 w (mm sl ys) W) (fun _ _ _=>False) (lD hmw (mm sl)) (fun _ s W W' row h=>h.elim) ⟨m1,hm1,hpl,hmw,Fr.refl _ w,fun b hb=>.inl hb,fun b hb=>.inl hb⟩
  (fun x a' W=>w.heap.size≤W.heap.size∧∃ b,w.heap.size≤b∧W.heap[b]?=some (.cells (denL (csx x)).toArray t (0,0))∧¬ Foot W b∧a'.defers=[]∧∀ j,SlotsOk ((kD sl ps.toList (encs x)).set q (.ptr j ⟨b,0,none⟩ 0)) a'.tmps) ?_ ?_ ?_ ?_ (fun D c pre W _ _ h=>h.elim)
 ·rintro x a' _ W W' row ⟨h1,b,h2,h3,h4,h5,h6⟩ hgr hrow
  refine ⟨Nat.le_trans h1 hgr.size,b,h2,?_,fun h7=>h4 (hF.old W W' row b h1 hgr (fun r e=>(hrow r e).1) h7),h5,h6⟩
  refine (hgr.block b (Array.getElem?_eq_some_iff.1 h3).1 fun e=>?_).trans h3
  obtain ⟨_,o,h7,h8⟩:=hrow b e.symm
  rw [h3] at h7;injection h7 with h7;subst h7;cases h8
 ·rintro l pre x W Kk ⟨m2,h1,h2,h3,h4,h5⟩ hK
  refine gb hassign (sl:=kD sl ps.toList (encs x)) ?_ rfl h4.size h3 (fun k hk=>⟨fun o e=>by have:=h2 k hk;unfold dU at this;rw [e] at this;exact this,fun o e=>by have:=h2 k hk;unfold dU at this;rw [e] at this;exact this⟩) h4 h5 (hasg pre x m2 h1) ?_
  ·have:=mU (ps:=ps.toList) (vs:=encs x) hs0.slots
   have e:(ps.zip (denL (encs x)).toArray).toList=ps.toList.zip (denL (encs x)):=by simp
   rw [← Array.foldl_toList,e]
   exact this
  ·rintro e a' sl' m3 W' ⟨rfl,b,rfl,rfl⟩ hloc hsl hd' hmo hkf hst hfr hfre hsz
   have hpair:=List.pairwise_append.1 hmo.sep
   have hm2':MemOk m2 W':=⟨fun k hk=>hmo.holds k (by simp [hk]),hpair.1⟩
   have hnf:¬ foots m2 b:=fun ⟨k,hk,hb⟩=>hpair.2.2 k hk _ (List.mem_singleton.2 rfl) (.inr rfl) b hb rfl
   have hbw:w.heap.size≤b:=by
    rcases hloc.2 b ⟨⟨⟨b,0,none⟩,csx x,.var t⟩,by simp,rfl⟩ with h6 | h6
    ·exact (hnf h6).elim
    ·exact Nat.le_trans h4.size h6
   refine hK a' W' hkf hst ⟨m2,h1,h2,hm2',hfr,⟨fun b hb=>hfre.1 b ?_,fun b hb=>hfre.2 b ?_⟩⟩ ⟨hfr.size,b,hbw,(hmo.holds ⟨⟨b,0,none⟩,csx x,.var t⟩ (by simp)).2.2,fun h6=>hnf ((hF.iff pre m2 W' h1 hm2' b hbw).2 h6),hd',fun j=>?_⟩
   iterate 2
    ·obtain ⟨k,hk,h6⟩:=hb;exact ⟨k,by simp [hk],h6⟩
   ·refine ⟨by simpa using hsl.1,fun i y v hy hv=>?_⟩
    rw [List.getElem?_set] at hy
    by_cases hqi:q=i
    ·subst hqi
     rw [if_pos rfl] at hy
     split at hy
     ·rename_i hlt
      injection hy with hy
      subst hy
      have:=hsl.2 q (.ptr m2.length ⟨b,0,none⟩ 0) v (by rw [List.getElem?_set_self hlt]) hv
      rcases this with h | h
      ·cases h
      ·exact .inr h
     ·cases hy
    ·rw [if_neg hqi] at hy
     exact hsl.2 i y v (by rw [List.getElem?_set_ne hqi];exact hy) hv
 ·rintro l pre x a' W _ _ ⟨m2,h1,h2,h3,h4,h5⟩ ⟨h6,b,h7,h8,h9,h10,h11⟩ hlt
  have hnf:¬ foots m2 b:=fun h=>h9 ((hF.iff pre m2 W h1 h3 b h7).1 h)
  refine gb hbody (h11 m2.length) h10 h4.size (h3.and_one h8 hnf) (fun k hk=>by
   rcases List.mem_append.1 hk with hk | hk
   ·exact ⟨fun o e=>by have:=h2 k hk;unfold dU at this;rw [e] at this;exact this,fun o e=>by have:=h2 k hk;unfold dU at this;rw [e] at this;exact this⟩
   ·exact ⟨fun o e=>(by rw [List.mem_singleton.1 hk] at e;cases e),fun o e=>(by rw [List.mem_singleton.1 hk] at e;cases e)⟩) h4 ⟨fun b' hb=>?_,fun b' hb=>?_⟩ (hround pre x b m2 hlt h1) ?_
  ·obtain ⟨k,hk,hw,hb⟩:=hb
   rcases List.mem_append.1 hk with hk | hk
   ·exact h5.1 b' ⟨k,hk,hw,hb⟩
   ·rw [List.mem_singleton] at hk
    subst hk
    simp only [Blk.foot,Blk.bn,Option.some.injEq] at hb
    exact .inr (by omega)
  ·obtain ⟨k,hk,hb⟩:=hb
   rcases List.mem_append.1 hk with hk | hk
   ·exact h5.2 b' ⟨k,hk,hb⟩
   ·rw [List.mem_singleton] at hk
    subst hk
    simp only [Blk.foot,Blk.bn,Option.some.injEq] at hb
    exact .inr (by omega)
  ·rintro e a2 sl' m3 W' ⟨rfl,m4,hfit,hmm,hpl4⟩ _ hsl hd' hmo hkf hst hfr hfre hsz
   exact ⟨hkf,hst,m4,hmm,hpl4,(hfit W' hmo).1,hfr,fun b hb=>hfre.1 b ((hfit W' hmo).2.1 b hb),fun b hb=>hfre.2 b ((hfit W' hmo).2.2 b hb)⟩
 ·rintro D ys W hD hys ⟨m2,h2,hp2,hm2,hf2,hfr2⟩ hdef
  have hDlt:D<W.heap.size:=(Array.getElem?_eq_some_iff.1 hdef).1
  have hDfoot:¬ foots m2 D:=by
   rintro ⟨k,hk,hb⟩
   rcases gy hmw hm2 hp2 hk hb with h | ⟨o,h3,h4⟩
   ·omega
   ·rw [hdef] at h3;injection h3 with h3;subst h3;cases h4
  have hsim2:Sim W ⟨wrs m2,foots m2,{ target:=.collected D,args:=#[] }::a.defers⟩ sl m2 { a with defers:={ target:=.collected D,args:=#[] }::a.defers } W :=
   ⟨hs0.slots,rfl,hm2,Fr.refl _ W,fun b hb=>.inl hb,fun b hb=>.inl hb⟩
  show B.wpIn _ _ _ _ _ _
  refine wpIn_mono (wpIn_wide.2 (ag (hrest ys m2 hys h2) hsim2)) fun e a' w' hq=>?_
  obtain ⟨sl',m',hq,hs'⟩:=hq
  have hdef':w'.heap[D]?=some (.deferred (some [])):=(hs'.fr.block D hDlt fun ⟨k,hk,_,hb⟩=>hDfoot ⟨k,hk,hb⟩).trans hdef
  have hDfoot':¬ foots m' D:=fun hb=>(hs'.fresh.2 D hb).elim hDfoot fun h=>by omega
  have hm':MemOk m' (w'.putObj D (.deferred none)):=hs'.mem.keep (by simp [World.putObj]) fun k hk b hb=>World.putObj_heap_other (fun e=>hDfoot' ⟨k,hk,by rw [← e];exact hb⟩)
  have fin:∀ r,K r m'→(results fn a'.tmps).run P (w'.putObj D (.deferred none)) = .ok r.den (w'.putObj D (.deferred none)) →
    LeavesInM Fence.wide 1 P fn a'.tmps (fun e w'=>∃ r m',K r m'∧e = .returned r.den∧MemOk m' w'∧Fr (wrs m) w0 w'∧Fresh (own m) w0 m') a'.defers .returning w':=by
   intro r hr hres
   have hd':a'.defers={ target:=.collected D,args:=#[] }::a.defers:=hs'.defers
   rw [hd',hd]
   refine ⟨by simp,.inl ⟨D,w'.putObj D (.deferred none),rfl,run_takeDeferred hdef',r.den,hres,r,m',hr,rfl,hm',?_,?_,?_⟩⟩
   ·refine ⟨hs'.fr.os.trans (hf2.os.trans hs0.fr.os),hs'.fr.tape.trans (hf2.tape.trans hs0.fr.tape),hs'.fr.output.trans (hf2.output.trans hs0.fr.output),?_,fun k hk hw=>?_⟩
    ·have:=hs'.fr.size;have:=hf2.size;have:=hs0.fr.size
     simp [World.putObj];omega
    ·have h1:=hs0.fr.size
     have h2':=hf2.size
     have hkD:k≠D:=by omega
     rw [World.putObj_heap_other (by omega)]
     have hw1:¬ wrs m1 k:=fun h=>(hfresh0.1 k h).elim hw fun h=>by omega
     have hw2:¬ wrs m2 k:=fun h=>(hfr2.1 k h).elim hw1 fun h=>by omega
     exact (hs'.fr.block k (by omega) hw2).trans ((hf2.block k (by omega) hw1).trans (hs0.fr.block k hk hw))
   ·intro b hb
    have h1:=hs0.fr.size
    have h2':=hf2.size
    rcases hs'.fresh.1 b hb with h | h
    ·rcases hfr2.1 b h with h | h
     ·exact hfresh0.1 b h
     ·exact .inr (by omega)
    ·exact .inr (by omega)
   ·intro b hb
    have h1:=hs0.fr.size
    have h2':=hf2.size
    rcases hs'.fresh.2 b hb with h | h
    ·rcases hfr2.2 b h with h | h
     ·exact hfresh0.2 b h
     ·exact .inr (by omega)
    ·exact .inr (by omega)
  cases e with
  | normal =>
   obtain ⟨zs,h3,h4⟩:=an hs'.slots hq
   exact fin _ (bc h3) (h4 _ hm')
  | ret =>
   obtain ⟨zs,h3,h4⟩:=an hs'.slots hq
   exact fin _ (bc h3) (h4 _ hm')
  | exit id=>exact hq.elim
  | goto l=>exact hq.elim
  | panic ch=>exact hq.elim
  | outgrown=>exact hq.elim
end
end Go.Sx
namespace Go.Proofs.YtmehinfgdcmmjaaGreat
open Go.Sx Go.RowKit
set_option maxRecDepth 20000
set_option linter.unusedSimpArgs false
set_option linter.unusedVariables false
set_option maxHeartbeats 2000000
theorem o7 (F:Heap) (b:Nat) :
  NCall Tryz.prog 179 [.raw (.map (some b))] [hpB F] fun r m=>∃ c:Nat,r = .fn 196 [] [.ptr 1 ⟨c,0,none⟩ 0]∧m=[hpB F,⟨⟨c,0,none⟩,[.raw (.map (some b))],.var 232⟩]:=by
 refine aA Tryz.func179 rfl (by decide) ?_
 repeat' first|(refine sxZ ?_;try clear hK K)|refine sxW ?_ ?_<;>intro _|(intro K hK _;conv=>whnf)
 exact ⟨_,rfl,rfl⟩
def qn (t:Po.S):List AV:=[.agg t.av]
def nd (lp:Nat) (cap:Addr) (c:Nat):List AV:=[.raw (.func (.yield lp) #[] #[]),.hp cap 0,.any,.any,.any,.raw (.pointer (some ⟨c,0,none⟩)),.any,.any,.any,.any,.any,.any,.any,.any]
def kyM (F:Heap) (c b n:Nat) (seen:Array Nat):List Blk:=[hpB F,itB c b n seen]
def rg (lp:Nat) (cap:Addr) (F:Heap) (b c base:Nat) (N:List Po.S) (J:List Po.S→World→Prop) (a:Go.Act) (W:World):Prop :=
 ∃ seen pre,Po.okPre N seen pre∧SlotsOk (nd lp cap c) a.tmps∧a.defers=[]∧MemOk (kyM F c b N.length seen) W∧J pre W
def lz (n c:Nat) (W:World):Nat :=
 match W.heap[c]? with
 | some (.mapIter _ _ seen _)=>Po.left n seen
 | _=>0
theorem mb {F:Heap} {c b n:Nat} {seen:Array Nat} {W:World} (h:MemOk (kyM F c b n seen) W):lz n c W=Po.left n seen:=by
 have:=h.obj (j:=1) (b:=c) (o:=.mapIter (some b) n seen n) rfl
 unfold lz
 rw [this]
theorem dT {m:List Blk} {sl:List AV} {a:Go.Act} {W:World} (h1:SlotsOk sl a.tmps) (h2:a.defers=[]) (h3:MemOk m W):Sim W (own m) sl m a W :=
 ⟨h1,h2,h3,Fr.refl _ W,fun b hb=>.inl hb,fun b hb=>.inl hb⟩
theorem rL {F:Heap} {c b n:Nat} {seen:Array Nat} {k:Nat} (h:wrs (kyM F c b n seen) k):k=c:=by
 obtain ⟨k',hk',hw,hb⟩:=h
 simp only [kyM,List.mem_cons,List.not_mem_nil,or_false] at hk'
 rcases hk' with rfl | rfl
 ·cases hw
 ·replace hb:(itB c b n seen).bn=some k:=hb
  simp only [itB,Blk.bn,Option.some.injEq] at hb
  exact hb.symm
theorem pF {F:Heap} {k:Nat} (h:wrs [hpB F] k):False:=by
 obtain ⟨k',hk',hw,_⟩:=h
 rw [List.mem_singleton] at hk'
 subst hk'
 cases hw
theorem dK {F:Heap} {c b n:Nat} {seen:Array Nat} {A B:World} (h:Fr (wrs (kyM F c b n seen)) A B):A.grownBy B (some c) :=
 ⟨h.os,h.tape,h.output,h.size,fun k hk hne=>h.block k hk fun hw=>hne (by rw [rL hw])⟩
theorem o6 {F:Heap} {c b n:Nat} {seen:Array Nat} {m1:List Blk} {w A B:World} (hm:MemOk m1 w) (hF:hpB F∈m1) (hc:w.heap.size≤c) (h:MemOk (kyM F c b n seen) A) (hs:mn m1 w A B):MemOk (kyM F c b n seen) B:=by
 have h1:MemOk [hpB F] A:=⟨fun k hk=>h.holds k (by rw [List.mem_singleton] at hk;subst hk;simp [kyM]),by simp⟩
 have h2:=hm.still hF h1 hs
 have h3:=h.obj (j:=1) (b:=c) (o:=.mapIter (some b) n seen n) rfl
 refine ⟨fun k hk=>?_,h.sep⟩
 simp only [kyM,List.mem_cons,List.not_mem_nil,or_false] at hk
 rcases hk with rfl | rfl
 ·exact h2.holds _ (by simp)
 ·exact ⟨rfl,rfl,rfl,hs.2.2 c _ hc h3 rfl⟩
theorem l3 (F:Heap) (b:Nat) (N:List Po.S) (m1:List Blk) (hF:hpB F∈m1) (cap:Addr) (hc:F.c cap (.map (some b))) (hb:F.o b (aS (Po.sM N))) :
  p7 Tryz.prog 196 [.hp cap 0] m1 qn (fun ys=>ys.Perm N) N.length:=by
 have hu:Tryz.prog.underlying 232=some (.map 48 238):=by kernel_rfl
 have hc0:F.c (cap.add 0) (.map (some b)):=by simpa [Addr.add] using hc
 have hmi:∀ m:List Blk,m[0]?=some (hpB F)→bW m b (Po.sM N):=fun m h=>bW.heap h hb
 intro w hm lp J Jx W hW hJ hJx hY h0
 have hmW:MemOk [hpB F] W:=(hm.one_of hF).keep hW.size fun k hk b hb=>by
  rw [List.mem_singleton] at hk
  subst hk
  exact hW.block b ((hm.holds _ hF).lt hb)
 refine callsIn_of_wp Tryz.func196 rfl trivial ?_ rfl
 have hs0:SlotsOk ([.raw (.func (.yield lp) #[] #[]),.hp cap 0,.any,.any,.any,.any,.any,.any,.any,.any,.any,.any,.any,.any]) (#[.func (.yield lp) #[] #[]]++(denL [.hp cap 0]).toArray++Array.replicate (14 - 2) undef) :=
  ee (args:=[.raw (.func (.yield lp) #[] #[]),.hp cap 0]) (n:=14) (by show 2≤_;decide)
 refine wpIn_seq (wpIn_mono (wpIn_wide.2 (ag (Q:=fun e sl' m'=>e = .normal∧∃ c,m'=kyM F c b N.length #[]∧FitsSl sl' (nd lp cap c)) ?_ (dT (sl:=[.raw (.func (.yield lp) #[] #[]),.hp cap 0,.any,.any,.any,.any,.any,.any,.any,.any,.any,.any,.any,.any]) (a:={ tmps:=_,defers:=[] }) hs0 rfl hmW))) ?_)
 ·clear hs0 hY
  repeat' first|((try intro K hK);((with_reducible refine eH ?_);refine eu (N:=N) hu (hmi _ rfl) fun c=>?_;conv=>whnf))|(refine sxZ ?_;try clear hK K)|refine sxW ?_ ?_<;>intro _|(intro K hK _;conv=>whnf)|(intro _;conv=>whnf)
  refine ⟨rfl,_,rfl,?_⟩
  unfold nd
  exact aC
 rintro e a w1 ⟨sl,m,⟨rfl,c,rfl,hfit⟩,hsm⟩
 have hcW:W.heap.size≤c:=by
  rcases hsm.fresh.1 c ⟨itB c b N.length #[],by simp [kyM],rfl,rfl⟩ with h | h
  ·exact (pF h).elim
  ·exact h
 have hcw:w.heap.size≤c:=Nat.le_trans hW.size hcW
 have hJ1:J [] w1:=hJ _ _ _ none h0 ⟨hsm.fr.os,hsm.fr.tape,hsm.fr.output,hsm.fr.size,fun k hk _=>hsm.fr.block k hk pF⟩ (by simp)
 have hwalk:∀ {seen:Array Nat} {A:World},MemOk (kyM F c b N.length seen) A→∀ r,some c=some r→W.heap.size≤r∧∃ o:Obj,A.heap[r]?=some o∧o.isWalk=true:=fun {seen A} h r e=>by
  cases e
  exact ⟨hcW,_,h.obj (j:=1) (b:=c) (o:=.mapIter (some b) N.length seen N.length) rfl,rfl⟩
 refine wpIn_block (wpIn_loop (rg lp cap F b c w.heap.size N J) (fun _ W=>lz N.length c W) ⟨#[],[],Po.okPre_start N,hsm.slots.fits hfit,hsm.defers,hsm.mem,hJ1⟩ ?_)
 rintro a W2 ⟨seen,pre,hok,hsl,hd,hm2,hJ2⟩
 dsimp only
 rw [mb hm2]
 refine wpIn_seq (wpIn_mono (wpIn_wide.2 (ag (Q:=fun e sl' m'=>e = .normal∧(((∀ i,i<N.length→seen.contains i=true)∧m'=kyM F c b N.length seen∧FitsSl sl' ([.any,.any,.any,.any,.any,.any,.any,.bool false,.any,.any,.any,.any,.any,.any]))∨∃ i t,N[i]?=some t∧seen.contains i=false∧m'=kyM F c b N.length (seen.push i)∧FitsSl sl' ([.raw (.func (.yield lp) #[] #[]),.hp cap 0,.any,.any,.any,.raw (.pointer (some ⟨c,0,none⟩)),.any,.bool true,.any,.any,.any,.any,.any,.any]))) ?_ (dT hsl hd hm2))) ?_)
 ·unfold nd kyM
  repeat' first|((try intro K hK);((with_reducible refine eH ?_);refine fP (N:=N) (j:=1) rfl (hmi _ rfl) ?_ ?_<;>first | (intro i9 t9 hi9 hs9;conv=>whnf) | (intro hall9;conv=>whnf)))|(refine sxZ ?_;try clear hK K)|refine sxW ?_ ?_<;>intro _|(intro K hK _;conv=>whnf)|(intro _;conv=>whnf)
  ·refine ⟨rfl,.inl ⟨hall9,rfl,?_⟩⟩
   exact aC
  ·refine ⟨rfl,.inr ⟨i9,t9,hi9,hs9,rfl,?_⟩⟩
   exact aC
 rintro e a1 W3 ⟨sl1,m1',⟨rfl,hq⟩,hs1'⟩
 have hJ3:J pre W3:=hJ _ _ _ (some c) hJ2 (dK hs1'.fr) (hwalk hm2)
 have hd3:=hs1'.defers
 rcases hq with ⟨hall,rfl,hfit1⟩ | ⟨i,t,hit,hsn,rfl,hfit1⟩
 ·refine wpIn_seq (wpIn_mono (wpIn_wide.2 (ag (Q:=fun e sl' m'=>e = .exit 0∧m'=kyM F c b N.length seen) ?_ (dT (hs1'.slots.fits hfit1) hd3 hs1'.mem))) ?_)
  ·repeat' first|(refine sxZ ?_;try clear hK K)|refine sxW ?_ ?_<;>intro _|(intro K hK _;conv=>whnf)
   exact ⟨rfl,rfl⟩
  rintro e a2 W4 ⟨sl2,m2,⟨rfl,rfl⟩,hs2'⟩
  refine ⟨hs2'.defers,_,by simp [results,Tryz.f196];rfl,⟨_,rfl⟩,.inl ⟨pre,Po.okPre_end hok hall,?_⟩⟩
  exact hJ _ _ _ (some c) hJ3 (dK hs2'.fr) (hwalk hs1'.mem)
 ·have hsl3:=hs1'.slots.fits hfit1
  have hm3:=hs1'.mem
  have hok3:=Po.okPre_push hok hit hsn
  have hlt3:=Po.okPre_lt hok hit hsn
  have hleft:Po.left N.length (seen.push i)<Po.left N.length seen:=Po.left_push (List.getElem?_eq_some_iff.1 hit).1 hsn
  clear hs1' hfit1 hm2 hJ2 hsl hd
  refine wpIn_seq (wpIn_mono (wpIn_wide.2 (ag (Q:=fun e sl' m'=>e = .normal∧m'=kyM F c b N.length (seen.push i)∧FitsSl sl' ([.raw (.func (.yield lp) #[] #[]),.hp cap 0,.any,.any,.any,.raw (.pointer (some ⟨c,0,none⟩)),.any,.any,.any,.any,.any,.any,.any,.any])) ?_ (dT hsl3 hd3 hm3))) ?_)
  ·repeat' first|(refine sxZ ?_;try clear hK K)|refine sxW ?_ ?_<;>intro _|(intro K hK _;conv=>whnf)
   refine ⟨rfl,rfl,?_⟩
   exact aC
  rintro e a2 W4 ⟨sl2,m2,⟨rfl,rfl,hfit2⟩,hs2'⟩
  have hJ4:J pre W4:=hJ _ _ _ (some c) hJ3 (dK hs2'.fr) (hwalk hm3)
  have hm4:=hs2'.mem
  have hsl4:=hs2'.slots.fits hfit2
  have hd4:=hs2'.defers
  clear hs2' hfit2
  refine wpIn_block (wpIn_seq (wpIn_mono (wpIn_wide.2 (ag (Q:=fun e sl' m'=>e = .normal∧∃ k:Nat,m'=kyM F c b N.length (seen.push i)++[⟨⟨k,0,none⟩,t.av,.var 48⟩]∧FitsSl sl' ([.raw (.func (.yield lp) #[] #[]),.hp cap 0,.any,.ptr 2 ⟨k,0,none⟩ 0,.any,.raw (.pointer (some ⟨c,0,none⟩)),.any,.any,.any,.any,.any,.any,.any,.any])) ?_ (dT hsl4 hd4 hm4))) ?_))
  ·unfold kyM
   repeat' first|((try intro K hK);((with_reducible refine eH ?_);refine gW (N:=N) (j:=1) rfl (hmi _ rfl) hit ?_;conv=>whnf))|(refine sxZ ?_;try clear hK K)|refine sxW ?_ ?_<;>intro _|(intro K hK _;conv=>whnf)|(intro _;conv=>whnf)
   refine ⟨rfl,_,rfl,?_⟩
   exact aC
  rintro e a3 W5 ⟨sl3,m3,⟨rfl,k,rfl,hfit3⟩,hs3'⟩
  have hJ5:J pre W5:=hJ _ _ _ (some c) hJ4 (dK hs3'.fr) (hwalk hm4)
  obtain ⟨F2,hF2⟩:∃ F2,F2=addF F ⟨k,0,none⟩ (denL t.av):=⟨_,rfl⟩
  have hle:F.le F2:=by rw [hF2];exact addF.old
  have hcells:CellsF F2 ⟨k,0,none⟩ 0 (denL t.av):=by rw [hF2];exact addF.new
  have hm5:MemOk (kyM F2 c b N.length (seen.push i)) W5:=by
   have h1:=((MemFits.pick [0,2,1] (by decide) rfl:MemFits (kyM F c b N.length (seen.push i)++[⟨⟨k,0,none⟩,t.av,.var 48⟩]) [hpB F,⟨⟨k,0,none⟩,t.av,.var 48⟩,itB c b N.length (seen.push i)]) W5 hs3'.mem).1
   have h2:=(MemFits.freezeVar W5 h1).1
   rw [hF2]
   exact h2
  have hsl5:SlotsOk ([.raw (.func (.yield lp) #[] #[]),.hp cap 0,.any,.hp ⟨k,0,none⟩ 0,.any,.raw (.pointer (some ⟨c,0,none⟩)),.any,.any,.any,.any,.any,.any,.any,.any]) a3.tmps:=(hs3'.slots.fits hfit3).fits (by
   repeat (first | exact FitsSl.nil | refine FitsSl.any ?_ | refine FitsSl.cons (.inr ⟨(fun h=>by cases h),rfl⟩) ?_))
  have hd5:=hs3'.defers
  clear hs3' hfit3 hF2
  refine wpIn_seq (wpIn_region_list ?_)
  have hsplit:∀ (l:List Oper),l=l.take 2++l.drop 2:=fun l=>(List.take_append_drop 2 l).symm
  rw [hsplit (Array.toList _)]
  refine ib (k:=fun sl' m'=>m'=kyM F2 c b N.length (seen.push i)∧FitsSl sl' ([.raw (.func (.yield lp) #[] #[]),.hp cap 0,.any,.any,.any,.raw (.pointer (some ⟨c,0,none⟩)),.any,.any,.any,.any,.raw (.func (.yield lp) #[] #[]),.agg t.av,.any,.any])) ?_ (dT hsl5 hd5 hm5) ?_
  ·obtain ⟨d0,d1,d2,d3,d4,_⟩:=hcells
   unfold kyM
   clear hY hJ hJx
   obtain ⟨a0,q0,q1,q2,q3⟩:=t
   simp only [Po.S.av] at *
   show opsK _ _ (_::_::[]) _ _ _
   repeat' first|(refine sxZ ?_;try clear hK K)|refine sxW ?_ ?_<;>intro _|(intro K hK _;conv=>whnf)
   refine ⟨rfl,?_⟩
   exact aC
  rintro sl6 m6 a6 W6 ⟨rfl,hfit6⟩ hs6
  have hJ6:J pre W6:=hJ _ _ _ (some c) hJ5 (dK hs6.fr) (fun r e=>by
   cases e
   exact ⟨hcW,_,hm5.obj (j:=1) (b:=c) (o:=.mapIter (some b) N.length (seen.push i) N.length) rfl,rfl⟩)
  have hm6:MemOk (kyM F c b N.length (seen.push i)) W6:=(MemFits.less hle _ W6 hs6.mem).1
  have hsl6:=hs6.slots.fits hfit6
  have hd6:=hs6.defers
  have hY':=hY _ t W6 hJ6 hlt3
  have hat:∀ (i:Nat) (y:AV),([.raw (.func (.yield lp) #[] #[]),.hp cap 0,.any,.any,.any,.raw (.pointer (some ⟨c,0,none⟩)),.any,.any,.any,.any,.raw (.func (.yield lp) #[] #[]),.agg t.av,.any,.any])[i]?=some y→y≠.any→a6.tmps[i]?=some y.den:=fun i y hy hne=>by
   have hlt:i<a6.tmps.size:=by rw [← hsl6.1];exact (List.getElem?_eq_some_iff.1 hy).1
   have:=hsl6.2 i y a6.tmps[i] hy (by simp [hlt])
   rcases this with h | h
   ·exact (hne h).elim
   ·simp [hlt,h]
  refine lJ (lp:=lp) rfl rfl (by simp [Go.Act.eval,hat 10 _ rfl (by simp),AV.den]) (vs:=(denL (qn t)).toArray) ?_ hY' ?_
  ·simp [Go.Act.eval,hat 11 _ rfl (by simp),AV.den,qn,denL]
  rintro e W7 (⟨rfl,hJ7,hst⟩ | ⟨rfl,hJ7⟩)
  ·refine ⟨_,rfl,?_⟩
   have hm7:=o6 hm hF hcw hm6 hst
   refine kJ (k:=fun sl' m'=>m'=kyM F c b N.length (seen.push i)∧FitsSl sl' ([.raw (.func (.yield lp) #[] #[]),.hp cap 0,.any,.any,.any,.raw (.pointer (some ⟨c,0,none⟩)),.any,.any,.any,.any,.any,.any,.any,.bool false])) ?_ (dT (a:=a6.put (some 12) (.bool true)) (hsl6.set 12 (.bool true)) hd6 hm7) ?_
   ·repeat' first|(refine sxZ ?_;try clear hK K)|refine sxW ?_ ?_<;>intro _|(intro K hK _;conv=>whnf)
    refine ⟨rfl,?_⟩
    exact aC
   rintro sl8 m8 a8 W8 ⟨rfl,hfit8⟩ hs8
   have hJ8:=hJ _ _ _ (some c) hJ7 (dK hs8.fr) (hwalk hm7)
   refine wpIn_mono (wpIn_wide.2 (ag (Q:=fun e sl' m'=>e = .normal∧m'=kyM F c b N.length (seen.push i)∧FitsSl sl' (nd lp cap c)) ?_ (dT (hs8.slots.fits hfit8) hs8.defers hs8.mem))) ?_
   ·repeat' first|(refine sxZ ?_;try clear hK K)|refine sxW ?_ ?_<;>intro _|(intro K hK _;conv=>whnf)
    refine ⟨rfl,rfl,?_⟩
    unfold nd
    exact aC
   rintro e a9 W9 ⟨sl9,m9,⟨rfl,rfl,hfit9⟩,hs9⟩
   have hJ9:=hJ _ _ _ (some c) hJ8 (dK hs9.fr) (hwalk hs8.mem)
   refine ⟨⟨seen.push i,pre++[t],hok3,hs9.slots.fits hfit9,hs9.defers,hs9.mem,hJ9⟩,?_⟩
   rw [mb hs9.mem]
   exact hleft
  ·refine ⟨_,rfl,?_⟩
   refine kJ (k:=fun sl' m'=>m'=[]∧FitsSl sl' ([.any,.any,.any,.any,.any,.any,.any,.any,.any,.any,.any,.any,.any,.bool true])) ?_ (dT (m:=[]) (a:=a6.put (some 12) (.bool false)) (hsl6.set 12 (.bool false)) hd6 (MemOk.nil W7)) ?_
   ·repeat' first|(refine sxZ ?_;try clear hK K)|refine sxW ?_ ?_<;>intro _|(intro K hK _;conv=>whnf)
    refine ⟨rfl,?_⟩
    exact aC
   rintro sl8 m8 a8 W8 ⟨rfl,hfit8⟩ hs8
   refine wpIn_mono (wpIn_wide.2 (ag (Q:=fun e sl' m'=>e = .ret∧m'=[]) ?_ (dT (hs8.slots.fits hfit8) hs8.defers hs8.mem))) ?_
   ·repeat' first|(refine sxZ ?_;try clear hK K)|refine sxW ?_ ?_<;>intro _|(intro K hK _;conv=>whnf)
    exact ⟨rfl,rfl⟩
   rintro e a9 W9 ⟨sl9,m9,⟨rfl,rfl⟩,hs9⟩
   have gr:∀ {A B:World},Fr (wrs []) A B→A.grownBy B none:=fun h=>⟨h.os,h.tape,h.output,h.size,fun k hk _=>h.block k hk fz⟩
   refine ⟨hs9.defers,_,by simp [results,Tryz.f196];rfl,⟨_,rfl⟩,.inr ⟨pre++[t],trivial,?_⟩⟩
   exact hJx _ _ _ none (hJx _ _ _ none hJ7 (gr hs8.fr) (by simp)) (gr hs9.fr) (by simp)
end Go.Proofs.YtmehinfgdcmmjaaGreat
