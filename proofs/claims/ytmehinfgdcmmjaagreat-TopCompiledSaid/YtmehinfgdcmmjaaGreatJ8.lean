import Derived.Test.YtmehinfgdcmmjaaGreatJ3
import Derived.Test.YtmehinfgdcmmjaaGreatJ7
import Derived.Test.YtmehinfgdcmmjaaGreatSxC
import Derived.OrdersHeld
import Derived.Test.YtmehinfgdcmmjaaGreatJ1
import Derived.Test.YtmehinfgdcmmjaaGreatProg
namespace Go.Proofs.YtmehinfgdcmmjaaGreat
open Go.Sx
set_option maxRecDepth 20000
set_option linter.unusedVariables false
namespace Cm
open Po (S)
def set1 (f v:Int):List Ac.A:=if 0≤v then [⟨1,f,v⟩] else []
def sets (s:S):List Ac.A:=set1 0 s.p0++set1 1 s.p1++set1 2 s.p2++set1 3 s.p3
def back (p:Bool):List Ac.A:=if p=true then [⟨3,0,0⟩] else []
def port (cp:Int) (s:S):Int:=if s.port<0 then cp else s.port
def step (cp:Int) (o:List Ac.A × Bool) (s:S):List Ac.A × Bool:=(o.1++back o.2++sets s++[⟨2,0,port cp s⟩],!(sets s).isEmpty)
def st (cp:Int) (l:List S):List Ac.A × Bool:=l.foldl (step cp) ([],false)
theorem st_next {cp:Int} {l:List S} {k:Nat} (h:k<l.length):st cp (l.take (k+1))=step cp (st cp (l.take k)) l[k]:=by
 unfold st
 rw [List.take_add_one,List.getElem?_eq_getElem h,List.foldl_append]
 rfl
def ported (cp:Int) (l:List S):Prop:=∀ s∈l,0≤port cp s
instance (cp:Int) (l:List S):Decidable (ported cp l):=by unfold ported;infer_instance
def acts (c:Tr.C):List Ac.A × Int:=if ported c.s.port c.out then (if (st c.s.port c.out).1.length>16 then ([],6) else ((st c.s.port c.out).1,0)) else ([],13)
theorem acts_err (c:Tr.C):(acts c).2=0∨(acts c).2=6∨(acts c).2=13:=by
 unfold acts
 split
 ·split
  ·exact .inr (.inl rfl)
  ·exact .inl rfl
 ·exact .inr (.inr rfl)
theorem set1_len (f v:Int):(set1 f v).length≤1:=by unfold set1;split<;>simp
theorem sets_len (s:S):(sets s).length≤4:=by
 have h0:=set1_len 0 s.p0
 have h1:=set1_len 1 s.p1
 have h2:=set1_len 2 s.p2
 have h3:=set1_len 3 s.p3
 unfold sets
 simp only [List.length_append]
 omega
theorem st_len (cp:Int):∀ l:List S,(st cp l).1.length≤6*l.length:=by
 intro l
 have h:∀ (l:List S) (o:List Ac.A × Bool),(l.foldl (step cp) o).1.length≤o.1.length+6*l.length:=by
  intro l
  induction l with
  | nil=>intro o;simp
  | cons x l ih =>
   intro o
   have h1:=ih (step cp o x)
   have h2:=sets_len x
   have h3:(back o.2).length≤1:=by unfold back;split<;>simp
   have h4:(step cp o x).1.length≤o.1.length+6:=by
    unfold step
    simp only [List.length_append,List.length_cons,List.length_nil]
    omega
   rw [List.foldl_cons,List.length_cons]
   omega
 have:=h l ([],false)
 simpa [st] using this
def vf (v:Int):Int:=if 0≤v then v else 0
def mf (f v:Int):Int:=if 0≤v then Mt.top f else 0
def mt (s:S):Mt.M:=⟨if 0≤s.port then s.port else -1,vf s.p0,vf s.p1,vf s.p2,vf s.p3,mf 0 s.p0,mf 1 s.p1,mf 2 s.p2,mf 3 s.p3⟩
def rule (n i:Nat) (c:Tr.C):Ru.R:=⟨((n - i:Nat):Int),mt c.s,(acts c).1⟩
def rules (n:Nat):Nat→List Tr.C→List Ru.R
 | _,[]=>[]
 | i,c::l=>rule n i c::rules n (i+1) l
theorem rules_len (n:Nat):∀ (l:List Tr.C) (i:Nat),(rules n i l).length=l.length
 | [],_=>rfl
 | c::l,i=>by rw [rules,List.length_cons,rules_len n l,List.length_cons]
theorem rules_at (n:Nat):∀ (l:List Tr.C) (i k:Nat) (h:k<l.length),(rules n i l)[k]?=some (rule n (i+k) l[k])
 | [],_,k,h=>absurd h (Nat.not_lt_zero _)
 | c::l,i,0,_=>rfl
 | c::l,i,k+1,h=>by
  rw [rules,List.getElem?_cons_succ,rules_at n l (i+1) k (by simpa using h)]
  rw [List.getElem_cons_succ,show i+1+k=i+(k+1) by omega]
theorem rules_app (n:Nat) (b:List Tr.C):∀ (a:List Tr.C) (i:Nat),rules n i (a++b)=rules n i a++rules n (i+a.length) b
 | [],i=>rfl
 | c::a,i=>by
  rw [List.cons_append,rules,rules,rules_app n b a (i+1),List.length_cons,List.cons_append,show i+1+a.length=i+(a.length+1) by omega]
theorem rules_next (n:Nat) (l:List Tr.C) {k:Nat} (h:k<l.length):rules n 0 (l.take (k+1))=rules n 0 (l.take k)++[rule n k l[k]]:=by
 rw [List.take_add_one,List.getElem?_eq_getElem h,rules_app,List.length_take,Nat.min_eq_left (Nat.le_of_lt h),Nat.zero_add]
 rfl
def scan:List Tr.C→Int
 | []=>0
 | c::l=>if (acts c).2=0 then scan l else (acts c).2
theorem scan_app (b:List Tr.C):∀ a:List Tr.C,scan a=0→scan (a++b)=scan b
 | [],_=>rfl
 | c::a,h=>by
  rw [scan] at h
  rw [List.cons_append,scan]
  by_cases h0:(acts c).2=0
  ·rw [if_pos h0] at h ⊢;exact scan_app b a h
  ·rw [if_neg h0] at h;exact absurd h h0
theorem scan_at {l:List Tr.C} {k:Nat} (h:k<l.length) (h0:scan (l.take k)=0) (hx:(acts l[k]).2≠0):scan l=(acts l[k]).2:=by
 have e:l=l.take k++(l[k]::l.drop (k+1)):=by
  rw [← List.drop_eq_getElem_cons h,List.take_append_drop]
 have h2:=scan_app (l[k]::l.drop (k+1)) (l.take k) h0
 rw [← e] at h2
 rw [h2,scan,if_neg hx]
theorem scan_next {l:List Tr.C} {k:Nat} (h:k<l.length) (h0:scan (l.take k)=0) (hx:(acts l[k]).2=0):scan (l.take (k+1))=0:=by
 rw [List.take_add_one,List.getElem?_eq_getElem h,scan_app _ _ h0]
 show scan [l[k]]=0
 rw [scan,if_pos hx];rfl
theorem scan_all {l:List Tr.C} (h:scan l=0):∀ c∈l,(acts c).2=0:=by
 induction l with
 | nil=>intro c hc;cases hc
 | cons x l ih =>
  intro c hc
  rw [scan] at h
  by_cases h0:(acts x).2=0
  ·rw [if_pos h0] at h
   rcases List.mem_cons.1 hc with rfl | hc
   ·exact h0
   ·exact ih h c hc
  ·rw [if_neg h0] at h;exact absurd h h0
theorem scan_err (l:List Tr.C):scan l=0∨scan l=6∨scan l=13:=by
 induction l with
 | nil=>exact .inl rfl
 | cons x l ih =>
  rw [scan]
  by_cases h0:(acts x).2=0
  ·rw [if_pos h0];exact ih
  ·rw [if_neg h0];exact acts_err x
def tbl (l:List Tr.C) (e room:Int):List Ru.R × Int:=if e≠0 then ([],e) else if scan l≠0 then ([],scan l) else if (l.length:Int)>room then ([],6) else (rules l.length 0 l,0)
def okS (s:S):Prop:=∀ f,Tr.ok f→Tr.gt f s = -1∨(0≤Tr.gt f s∧Tr.gt f s≤Pd.top f)
theorem okS_start:okS Tr.start:=fun f hf=>by
 rcases Tr.ok5 hf with rfl | rfl | rfl | rfl | rfl<;>exact .inl rfl
theorem okS_with {f v:Int} (hf:Tr.ok f) (hv:0≤v∧v≤Pd.top f) {s:S} (h:okS s):okS (Tr.withK f v s):=fun g hg=>by
 by_cases e:g=f
 ·subst e;rw [Tr.gt_same];exact .inr hv
 ·rw [Tr.gt_other v s hf hg e];exact h g hg
theorem outs_ok {sw:Int} {y:Po.T} (hy:Po.fits y=true) {s:S} (hs:okS s):∀ u∈Tr.outs sw y s,okS u:=fun u hu=>by
 rw [← Tr.outs_mem,List.mem_map] at hu
 obtain ⟨w,hw,rfl⟩:=hu
 have hk:=Tr.runs_keep sw (fun f v=>0≤v∧v≤Pd.top f) _ y (Nat.le_refl _) hy (fun f v _ h=>Po.vals_top f y hy v h) s w hw
 intro f hf
 rw [Tr.gt_came hf]
 have h1:=hk f hf
 have h2:=hs f hf
 by_cases h4:f=4
 ·rw [if_pos h4]
  rcases h1 with h1 | h1
  ·rw [h1];exact h2
  ·exact .inr h1
 ·rw [if_neg h4]
  unfold Tr.came
  split
  ·exact .inl rfl
  ·rcases h1 with h1 | h1
   ·rename_i hne;exact absurd h1 hne
   ·exact .inr h1
theorem cases_ok {sw:Int} {y:Po.T} (hy:Po.fits y=true):∀ (fs:List Int) (s:S),(∀ f∈fs,Tr.ok f)→okS s→∀ c∈Tr.cases sw y fs s,okS c.s∧∀ u∈c.out,okS u
 | [],s,_,hs,c,h=>by
  rw [Tr.cases,List.mem_singleton] at h
  rw [h]
  exact ⟨hs,outs_ok hy hs⟩
 | f::rest,s,hf,hs,c,h=>by
  have hr:∀ g∈rest,Tr.ok g:=fun g hg=>hf g (List.mem_cons_of_mem _ hg)
  rcases Tr.mem_cases h with ⟨v,hv,h⟩ | h
  ·exact cases_ok hy rest _ hr (okS_with (hf f (List.mem_cons_self ..)) (Po.vals_top f y hy v ((Po.values_mem f y v).1 hv)) hs) c h
  ·exact cases_ok hy rest s hr hs c h
theorem all_ok {sw:Int} {x:Po.T} (hx:Po.fits x=true):∀ c∈Tr.all sw x,okS c.s∧∀ u∈c.out,okS u :=
 cases_ok (Po.spec_fits sw x hx) Tr.order Tr.start (fun f h=>Tr.mem_order.1 h) okS_start
theorem top_eq {f:Int} (hf:0≤f∧f≤3):Pd.top f=Mt.top f:=by
 have:f=0∨f=1∨f=2∨f=3:=by omega
 rcases this with rfl | rfl | rfl | rfl<;>rfl
theorem set1_ok {f v:Int} (hf:0≤f∧f≤3) (hv:v = -1∨(0≤v∧v≤Pd.top f)):∀ a∈set1 f v,Ac.ok1 8 a:=fun a ha=>by
 unfold set1 at ha
 split at ha
 ·rw [List.mem_singleton] at ha
  subst ha
  have h2:v≤Mt.top f:=by rw [← top_eq hf];omega
  exact .inl ⟨rfl,hf.1,hf.2,by assumption,h2⟩
 ·cases ha
theorem sets_ok {s:S} (h:okS s):∀ a∈sets s,Ac.ok1 8 a:=fun a ha=>by
 have h0:=h 0 (by decide)
 have h1:=h 1 (by decide)
 have h2:=h 2 (by decide)
 have h3:=h 3 (by decide)
 unfold sets at ha
 simp only [List.mem_append] at ha
 rcases ha with ((ha | ha) | ha) | ha
 ·exact set1_ok (by decide) h0 a ha
 ·exact set1_ok (by decide) h1 a ha
 ·exact set1_ok (by decide) h2 a ha
 ·exact set1_ok (by decide) h3 a ha
theorem st_ok {cp:Int}:∀ {l:List S},(∀ u∈l,okS u)→(∀ u∈l,0≤port cp u∧port cp u<8)→∀ a∈(st cp l).1,Ac.ok1 8 a:=by
 intro l hl hp
 have h:∀ (l:List S) (o:List Ac.A × Bool),(∀ u∈l,okS u)→(∀ u∈l,0≤port cp u∧port cp u<8)→(∀ a∈o.1,Ac.ok1 8 a)→∀ a∈(l.foldl (step cp) o).1,Ac.ok1 8 a:=by
  intro l
  induction l with
  | nil=>intro o _ _ ho a ha;exact ho a ha
  | cons x l ih =>
   intro o hl hp ho a ha
   rw [List.foldl_cons] at ha
   refine ih (step cp o x) (fun u hu=>hl u (List.mem_cons_of_mem _ hu)) (fun u hu=>hp u (List.mem_cons_of_mem _ hu)) (fun b hb=>?_) a ha
   unfold step at hb
   simp only [List.mem_append,List.mem_singleton] at hb
   rcases hb with ((hb | hb) | hb) | hb
   ·exact ho b hb
   ·unfold back at hb
    split at hb
    ·rw [List.mem_singleton] at hb;subst hb;exact .inr (.inr ⟨rfl,rfl,rfl⟩)
    ·cases hb
   ·exact sets_ok (hl x (List.mem_cons_self ..)) b hb
   ·subst hb
    have:=hp x (List.mem_cons_self ..)
    exact .inr (.inl ⟨rfl,rfl,this.1,this.2⟩)
 exact h l _ hl hp (fun a ha=>by cases ha)
theorem acts_ok {c:Tr.C} (hs:okS c.s) (ho:∀ u∈c.out,okS u):Ac.okL 8 (acts c).1:=by
 unfold acts
 split
 ·rename_i hp
  split
  ·exact ⟨by simp,fun a ha=>by cases ha⟩
  ·rename_i h
   refine ⟨by dsimp only;omega,st_ok ho fun u hu=>⟨hp u hu,?_⟩⟩
   have h1:=hs 4 (by decide)
   have h2:=ho u hu 4 (by decide)
   have e1:Tr.gt 4 c.s=c.s.port:=rfl
   have e2:Tr.gt 4 u=u.port:=rfl
   have e3:Pd.top 4=7:=by decide
   rw [e1,e3] at h1
   rw [e2,e3] at h2
   unfold port
   split<;>omega
 ·exact ⟨by simp,fun a ha=>by cases ha⟩
theorem fok {f v:Int} (hf:0≤f∧f≤3) (hv:v = -1∨(0≤v∧v≤Pd.top f)):Mt.FOk (Mt.top f) (vf v) (mf f v):=by
 rw [top_eq hf] at hv
 have h4:f=0∨f=1∨f=2∨f=3:=by omega
 have key:∀ t:Int,(t=255∨t=15)→0≤v→v≤t→∀ i,i<8→Mt.bit v i≤Mt.bit t i:=by
  intro t ht h0 hle
  obtain ⟨n,rfl⟩:=Int.eq_ofNat_of_zero_le h0
  rcases ht with rfl | rfl
  ·have:∀ n:Nat,n≤255→∀ i,i<8→Mt.bit (n:Int) i≤Mt.bit 255 i:=by decide +kernel
   exact this n (by omega)
  ·have:∀ n:Nat,n≤15→∀ i,i<8→Mt.bit (n:Int) i≤Mt.bit 15 i:=by decide +kernel
   exact this n (by omega)
 have ht:Mt.top f=255∨Mt.top f=15:=by rcases h4 with rfl | rfl | rfl | rfl<;>decide
 unfold vf mf
 by_cases h0:0≤v
 ·rw [if_pos h0,if_pos h0]
  have hle:v≤Mt.top f:=by omega
  have:=key (Mt.top f) ht h0 hle
  exact ⟨by omega,Int.le_refl _,h0,hle,this⟩
 ·rw [if_neg h0,if_neg h0]
  exact ⟨Int.le_refl _,by omega,Int.le_refl _,by omega,fun i _=>Int.le_refl _⟩
theorem mt_ok {s:S} (h:okS s):(mt s).ok:=by
 refine ⟨?_,fun f hf=>?_⟩
 ·have h4:=h 4 (by decide)
  have e1:Tr.gt 4 s=s.port:=rfl
  have e3:Pd.top 4=7:=by decide
  rw [e1,e3] at h4
  show -1≤(if 0≤s.port then s.port else -1)∧(if 0≤s.port then s.port else -1)≤7
  split<;>omega
 ·have:f=0∨f=1∨f=2∨f=3:=by omega
  rcases this with rfl | rfl | rfl | rfl
  ·exact fok (by decide) (h 0 (by decide))
  ·exact fok (by decide) (h 1 (by decide))
  ·exact fok (by decide) (h 2 (by decide))
  ·exact fok (by decide) (h 3 (by decide))
end Cm
end Go.Proofs.YtmehinfgdcmmjaaGreat
namespace Go.Sx
set_option linter.unusedVariables false
section
variable {P:Program}
def l4 (js:List Nat) (H:List Blk) (sl:List AV) (t:Nat):Bool :=
 match sl[t]? with
 | some (.hp _ _)=>!js.contains 0
 | some (.hs _ _)=>!js.contains 0
 | some (.ptr j _ _)=>!js.contains j&&decide (j<H.length)
 | some (.sl j _ _)=>!js.contains j&&decide (j<H.length)
 | some (.view j _ _ _ _)=>!js.contains j&&decide (j<H.length)
 | some (.raw _)=>true
 | _=>false
def o8 (js:List Nat) (H:List Blk) (sl:List AV):Op→Bool
 | .load _ (.tmp t)=>l4 js H sl t
 | .indexAddr _ (.tmp t) _=>l4 js H sl t
 | .slice _ (.tmp t) _ _ _=>l4 js H sl t
 | _=>false
def rt (js:List Nat) (H:List Blk) (sl:List AV):Op→Bool
 | .call c=>match c.callee,c.args.toList with
  | .builtin .len,[.tmp t]=>match sl[t]? with
   | some (.sl j _ _)=>js.contains j||decide (H.length≤j)
   | some (.view j _ _ _ _)=>js.contains j||decide (H.length≤j)
   | _=>false
  | _,_=>false
 | _=>false
def rm (P:Program) (js:List Nat) (H:List Blk) (sl:List AV) (op:Op):Bool:=(lc P op&&!rt js H sl op)||o8 js H sl op
def fy (js:List Nat) (H m:List Blk):Prop:=(hideF js 0 m).take H.length=H
theorem fy.mem {js:List Nat} {H m:List Blk} (h:fy js H m) {w:World} (hm:MemOk m w):MemOk H w:=by
 have h1:=ke (js:=js) 0 hm
 exact ((MemFits.pre H.length h) w h1).1
def fh (P:Program) (js:List Nat) (H:List Blk) (sl:List AV) (done:List Nat):Nat→List Oper→Option (Nat × Oper)
 | _,[]=>none
 | i,o::os=>match done.contains i,jM o done,rm P js H sl o.op with
  | false,true,true=>some (i,o)
  | _,_,_=>fh P js H sl done (i+1) os
theorem kO {js:List Nat} {H:List Blk} {sl:List AV} {done:List Nat}:∀ (os:List Oper) (i j:Nat) (o:Oper),fh P js H sl done i os=some (j,o)→∃ t,j=i+t∧os[t]?=some o
 | [],_,_,_,h=>by simp [fh] at h
 | x::os,i,j,o,h=>by
  unfold fh at h
  split at h
  ·simp only [Option.some.injEq,Prod.mk.injEq] at h
   obtain ⟨rfl,rfl⟩:=h
   exact ⟨0,rfl,rfl⟩
  ·obtain ⟨t,h1,h2⟩:=kO os (i+1) j o h
   exact ⟨t+1,by omega,by simpa using h2⟩
def KpS (H:List Blk) (w:World):Prop:=MemOk H w
@[irreducible] def bO (P:Program) (js:List Nat) (H:List Blk) (l:List Oper) (n:Nat) (done:List Nat) (sl:List AV) (m:List Blk) (k:List AV→List Blk→Prop):Prop :=
 ∀ (w0:World) (S:Own) (a:Act) (w:World),Sim w0 S sl m a w→wpAnyH P .any l.toArray (fE w0 S k) (KpS H) n (aL l.length done) a w
@[irreducible] def cW (P:Program) (js:List Nat) (H:List Blk) (l:List Oper) (n:Nat) (done:List Nat) (sl:List AV) (m:List Blk) (k:List AV→List Blk→Prop) (rs:List (Nat × Oper)):Prop :=
 ∀ x∈rs,∀ (w0:World) (S:Own) (a:Act) (w:World),Sim w0 S sl m a w→l.toArray[x.1]?=some x.2→wpOp P l.toArray (fE w0 S k) x.1 (fun a w=>KpS H w∧wpAnyH P .any l.toArray (fE w0 S k) (KpS H) n (aL l.length (x.1::done)) a w) a w
theorem mz {Q:Post} {sl:List AV} {m:List Blk} {id:Nat} {l:List Oper} {js:List Nat} {H:List Blk} (hF:fy js H m) (h1:P.follows .mixedOrders=true) (n:Nat) (hn:l.length=n) (h:bO P js H l n [] sl m (eF Q)):codeK P (.region id l.toArray true) sl m Q:=by
 simp only [codeK]
 subst hn
 unfold NDraw
 intro id w0 S a w hs
 unfold bO at h
 refine wp_region_held (S:=KpS H) h1 ?_
 have:=h w0 S a { w with drawn:=w.drawn+1 } ⟨hs.slots,hs.defers,hs.mem.keep (Nat.le_refl _) (fun _ _ _ _=>rfl),⟨hs.fr.os,hs.fr.tape,hs.fr.output,hs.fr.size,hs.fr.block⟩,hs.fresh⟩
 show wpAnyH P .any l.toArray (fE w0 S (eF Q)) _ _ _ a _
 simpa [aL] using this
section
variable {js:List Nat} {H:List Blk} {l:List Oper} {n i:Nat} {done:List Nat} {sl:List AV} {m:List Blk} {k:List AV→List Blk→Prop}
theorem ev {o:Oper} {v:AV} {sl':List AV} (hn:fh P js H sl done 0 l=some (i,o)) (hc:fw l done i=true) (hF:fy js H m)
  (h:bO P js H l n (i::done) sl' m k) {w0:World} {S:Own} {a:Act} {w:World} (hs:Sim w0 S sl m a w) (hy:YieldsIf P l.toArray (KpS H) o v.den a) (hs':SlotsOk sl' (a.put o.dst v.den).tmps) :
  wpAnyH P .any l.toArray (fE w0 S k) (KpS H) (n+1) (aL l.length done) a w:=by
 obtain ⟨t,ht,ho⟩:=kO l 0 i o hn
 obtain rfl:i=t:=by omega
 simp only [fw,Bool.and_eq_true] at hc
 obtain ⟨⟨h1,h2⟩,h3⟩:=hc
 have ho':l.toArray[i]?=some o:=by simpa using ho
 unfold bO at h
 exact wpAnyH_take ho' h1 h2 h3 (fun c a w hq=>by cases hq.1) hy (hF.mem hs.mem) (h w0 S _ w (hs.step hs' hs.mem hs.fr hs.fresh))
theorem oQ {d:Option Tmp} {op:Op} {t:TypeId} {p:String} {e:Array Edge} (hn:fh P js H sl done 0 l=some (i,⟨d,op,t,p,e,none⟩)) (hc:fw l done i=true) (hF:fy js H m)
  (h:∀ K:List AV→Prop,(∀ sl,bO P js H l n (i::done) sl m k→K sl)→opV P sl H op fun v=>dstK sl d v K):bO P js H l (n+1) done sl m k:=by
 unfold bO
 intro w0 S a w hs
 obtain ⟨v,h1,h2⟩:=bu hs.slots (h _ fun _ h=>h)
 obtain ⟨sl',h3,h4⟩:=aI h1 hs.slots
 exact ev hn hc hF h3 hs (.inl ⟨rfl,fun w hw=>h2 w hw _ rfl⟩) h4
theorem nC {d:Option Tmp} {op:Op} {t:TypeId} {p:String} {e:Array Edge} {g:Nat × Bool} (hn:fh P js H sl done 0 l=some (i,⟨d,op,t,p,e,some g⟩)) (hc:fw l done i=true) (hF:fy js H m)
  (h:∀ K:List AV→Prop,(∀ sl,bO P js H l n (i::done) sl m k→K sl)→guardK l.toArray sl g.1 g.2 (opV P sl H op fun v=>dstK sl d v K) (dstK sl d (.raw undef) K)):bO P js H l (n+1) done sl m k:=by
 unfold bO
 intro w0 S a w hs
 rcases ad (h _ fun _ h=>h) hs.slots (o:=⟨d,op,t,p,e,some g⟩) rfl with ⟨hw,h⟩ | ⟨hw,h⟩
 ·obtain ⟨v,h1,h2⟩:=bu hs.slots h
  obtain ⟨sl',h3,h4⟩:=aI h1 hs.slots
  exact ev hn hc hF h3 hs (.inl ⟨hw,fun w hw=>h2 w hw _ rfl⟩) h4
 ·obtain ⟨sl',h3,h4⟩:=aI h hs.slots
  exact ev (v:=.raw undef) hn hc hF h3 hs (.inr ⟨hw,rfl⟩) h4
theorem oP {rs:List (Nat × Oper)} (_hn:fh P js H sl done 0 l=none) (hr:readys done 0 l=rs) (hc:ef l done rs=true) (hne:rs≠[]) (h:cW P js H l n done sl m k rs):bO P js H l (n+1) done sl m k:=by
 unfold bO
 intro w0 S a w hs
 have hc:Region.ready .any l.toArray (aL l.length done)=rs.map (·.1):=by simpa [ef] using hc
 refine wpAnyH_all hc (fun e=>hne (by simpa using e)) fun i hi=>?_
 obtain ⟨x,hx,rfl⟩:=List.mem_map.1 hi
 obtain ⟨t,h1,h2⟩:=cz l 0 x (hr ▸ hx)
 unfold cW at h
 exact h x hx w0 S a w hs (by rw [h1];simpa using h2)
theorem oS (_hr:readys done 0 l=[]) (hc:ef l done []=true) (h:k sl m):bO P js H l n done sl m k:=by
 unfold bO
 intro w0 S a w hs
 have hc:Region.ready .any l.toArray (aL l.length done)=[]:=by simpa [ef] using hc
 exact wpAnyH_done hc ⟨rfl,sl,m,h,hs⟩ n
theorem iT:cW P js H l n done sl m k []:=by unfold cW;intro x hx;cases hx
theorem jv {rs:List (Nat × Oper)} {d:Option Tmp} {op:Op} {t:TypeId} {p:String} {e:Array Edge}
  (h:∀ K:List AV→List Blk→Prop,(∀ sl m,bO P js H l n (i::done) sl m k→K sl m)→opM P sl m op fun v m'=>NH (fy js H m') (dstK sl d v fun sl'=>K sl' m')) (hr:cW P js H l n done sl m k rs):cW P js H l n done sl m k ((i,⟨d,op,t,p,e,none⟩)::rs):=by
 unfold cW at *
 intro x hx
 rcases List.mem_cons.1 hx with rfl | hx
 ·intro w0 S a w hs ho
  unfold wpOp
  simp only [ho]
  rw [if_pos (show Region.wanted ⟨d,op,t,p,e,none⟩ (yielded l.toArray a.tmps)=true from rfl)]
  refine .inl (bZ hs.slots hs.mem hs.fr hs.fresh (o:=⟨d,op,t,p,e,none⟩) (h _ fun _ _ h=>h) fun v m' w' hl=>?_)
  obtain ⟨h0,hk⟩:=aK.1 hl.k
  obtain ⟨sl',h1,h2⟩:=aI hk hs.slots
  unfold bO at h1
  exact ⟨h0.mem hl.mem,h1 w0 S _ _ (hs.step h2 hl.mem hl.fr hl.fresh)⟩
 ·exact hr x hx
theorem iS {rs:List (Nat × Oper)} {d:Option Tmp} {op:Op} {t:TypeId} {p:String} {e:Array Edge} {g:Nat × Bool} (hF:fy js H m)
  (h:∀ K:List AV→List Blk→Prop,(∀ sl m,bO P js H l n (i::done) sl m k→K sl m)→guardK l.toArray sl g.1 g.2 (opM P sl m op fun v m'=>NH (fy js H m') (dstK sl d v fun sl'=>K sl' m')) (dstK sl d (.raw undef) fun sl'=>K sl' m)) (hr:cW P js H l n done sl m k rs):cW P js H l n done sl m k ((i,⟨d,op,t,p,e,some g⟩)::rs):=by
 unfold cW at *
 intro x hx
 rcases List.mem_cons.1 hx with rfl | hx
 ·intro w0 S a w hs ho
  unfold wpOp
  simp only [ho]
  rcases ad (h _ fun _ _ h=>h) hs.slots (o:=⟨d,op,t,p,e,some g⟩) rfl with ⟨hw,h⟩ | ⟨hw,h⟩
  ·rw [if_pos hw]
   refine .inl (bZ hs.slots hs.mem hs.fr hs.fresh (o:=⟨d,op,t,p,e,some g⟩) h fun v m' w' hl=>?_)
   obtain ⟨h0,hk⟩:=aK.1 hl.k
   obtain ⟨sl',h1,h2⟩:=aI hk hs.slots
   unfold bO at h1
   exact ⟨h0.mem hl.mem,h1 w0 S _ _ (hs.step h2 hl.mem hl.fr hl.fresh)⟩
  ·rw [if_neg (by simp [hw])]
   obtain ⟨sl',h3,h4⟩:=aI h hs.slots
   unfold bO at h3
   exact ⟨hF.mem hs.mem,h3 w0 S _ _ (hs.step (v:=undef) h4 hs.mem hs.fr hs.fresh)⟩
 ·exact hr x hx
def pT:Nat→List Nat
 | 0=>[]
 | j+1=>j::pT j
@[irreducible] def iI (P:Program) (js:List Nat) (H:List Blk) (l:List Oper) (n j:Nat) (rest:List Oper) (sl:List AV) (m:List Blk) (k:List AV→List Blk→Prop):Prop :=
 l.drop j=rest→bO P js H l n (pT j) sl m k
theorem my {Q:Post} {id:Nat} (js:List Nat) (hH:hideF js 0 m=H) (hF:fy js H m) (h1:P.follows .mixedOrders=true) (n:Nat) (hn:l.length=n) (h:iI P js H l n 0 l sl m (eF Q)):codeK P (.region id l.toArray true) sl m Q:=by
 unfold iI at h
 exact mz hF h1 n hn (h rfl)
theorem lL {j:Nat} {rest:List Oper} (h:bO P js H l n (pT j) sl m k):iI P js H l n j rest sl m k:=by
 unfold iI
 intro _
 exact h
end
end
theorem ri {P:Program} {js:List Nat} {H:List Blk} {l:List Oper} {n:Nat} {sl:List AV} {m:List Blk} {k:List AV→List Blk→Prop} {done:List Nat} (h:bO P js H l n done sl m k):bO P js H l n done sl m k:=h
theorem rk {P:Program} {js:List Nat} {H:List Blk} {l:List Oper} {n:Nat} {sl:List AV} {m:List Blk} {k:List AV→List Blk→Prop} {done:List Nat} {rs:List (Nat × Oper)} (h:cW P js H l n done sl m k rs):cW P js H l n done sl m k rs:=h
theorem rh {P:Program} {js:List Nat} {H:List Blk} {l:List Oper} {n:Nat} {sl:List AV} {m:List Blk} {k:List AV→List Blk→Prop} {j:Nat} {rest:List Oper} (h:iI P js H l n j rest sl m k):iI P js H l n j rest sl m k:=h
theorem rA {js:List Nat} {H m:List Blk} (h:(hideF js 0 m).take H.length=H):fy js H m:=h
theorem rr {G G':Prop} (r:G') (h:bH G'→G:=by
 intro r
 (first|(((with_reducible refine gH ?_);(with_reducible refine NH.mk ?s ?_);case s=>((with_reducible refine rA ?_);exact rfl))<;>(conv=>whnf))|((first|((with_reducible refine gV ?_);(first|((with_reducible first|refine NV.quo ?s ?_|refine NV.rem ?s ?_|refine NV.i64 ?s ?_|refine NV.u32 ?s ?_|refine NV.u8 ?s ?_|refine NV.u64 ?s ?_);case s=>omega)|(with_reducible first|refine NV.divk ?_|refine NV.modk ?_|refine NV.keep ?_)))|((with_reducible refine gI ?_);(first|with_reducible refine NIf.not_ ?_|((with_reducible refine NIf.decY ?s ?_);case s=>first|with_reducible rfl|assumption|omega)|((with_reducible refine NIf.decN ?s ?_);case s=>first|with_reducible rfl|assumption|omega)|((with_reducible refine NIf.yes ?s ?_);case s=>first|rfl|assumption)|((with_reducible refine NIf.no ?s ?_);case s=>first|rfl|assumption)))|((with_reducible refine gN ?_);(with_reducible first|refine NN.lit ?_|refine NN.cast ?_|refine NN.a1 ?_|refine NN.a2 ?_|refine NN.a3 ?_|refine NN.a4 ?_|refine NN.a5 ?_|refine NN.a6 ?_|refine NN.keep ?_))|((with_reducible refine gH ?_);((with_reducible refine NH.mk ?s ?_);case s=>(and_intros<;>first|with_reducible rfl|((with_reducible refine dL ?_);rfl)|((with_reducible refine fA ?_);rfl)|omega|assumption|exact Nat.le_of_ble_eq_true rfl|(simp only [List.length_append,List.length_cons,List.length_nil];omega)|rfl)))|(with_reducible refine NS.keep ?_)|(with_reducible refine NLd.of (by with_reducible assumption) ?_))<;>(conv=>whnf))|((refine aY.2 ⟨⟨?s1,?s2⟩,?_⟩;(case s1=>decide +kernel);(case s2=>decide +kernel))<;>(conv=>whnf)))
 exact r.go):G:=h ⟨r⟩
theorem nA {P:Program} {H:List Blk} {l:List Oper} {sl:List AV} {m:List Blk} {Q:Post} {id:Nat} {js:List Nat} (_:rq js) (hH:hideF js 0 m=H) (hF:fy js H m) (h1:P.follows .mixedOrders=true) (n:Nat) (hn:l.length=n) (h:iI P js H l n 0 l sl m (eF Q)):codeK P (.region id l.toArray true) sl m Q:=my js hH hF h1 n hn h
theorem aV {G G':Prop} (js:List Nat) (r:G') (h:rq js→bH G'→G:=by
 intro j r
 repeat1' (first|(with_reducible first|(refine hK _ _ ?_;try clear hK K)|(refine hA ?_;try clear hA hB A B)|(refine hB ?_;try clear hA hB A B)|(refine hK _ ?_;try clear hK K))|(intro K hK;first|(with_reducible first|refine hK _ _ ?_|refine hK _ ?_)|refine rr ?_)|(((with_reducible refine gH ?_);(with_reducible refine NH.mk ?s ?_);case s=>((with_reducible refine rA ?_);exact rfl))<;>(conv=>whnf))|((first|((with_reducible refine gV ?_);(first|((with_reducible first|refine NV.quo ?s ?_|refine NV.rem ?s ?_|refine NV.i64 ?s ?_|refine NV.u32 ?s ?_|refine NV.u8 ?s ?_|refine NV.u64 ?s ?_);case s=>omega)|(with_reducible first|refine NV.divk ?_|refine NV.modk ?_|refine NV.keep ?_)))|((with_reducible refine gI ?_);(first|with_reducible refine NIf.not_ ?_|((with_reducible refine NIf.decY ?s ?_);case s=>first|with_reducible rfl|assumption|omega)|((with_reducible refine NIf.decN ?s ?_);case s=>first|with_reducible rfl|assumption|omega)|((with_reducible refine NIf.yes ?s ?_);case s=>first|rfl|assumption)|((with_reducible refine NIf.no ?s ?_);case s=>first|rfl|assumption)))|((with_reducible refine gN ?_);(with_reducible first|refine NN.lit ?_|refine NN.cast ?_|refine NN.a1 ?_|refine NN.a2 ?_|refine NN.a3 ?_|refine NN.a4 ?_|refine NN.a5 ?_|refine NN.a6 ?_|refine NN.keep ?_))|((with_reducible refine gH ?_);((with_reducible refine NH.mk ?s ?_);case s=>(and_intros<;>first|with_reducible rfl|((with_reducible refine dL ?_);rfl)|((with_reducible refine fA ?_);rfl)|omega|assumption|exact Nat.le_of_ble_eq_true rfl|(simp only [List.length_append,List.length_cons,List.length_nil];omega)|rfl)))|(with_reducible refine NS.keep ?_)|(with_reducible refine NLd.of (by with_reducible assumption) ?_))<;>(conv=>whnf))|((first|((with_reducible refine gO ?_);(with_reducible first|refine z25 ?_|refine z26 ?_))|((with_reducible refine gP ?_);(with_reducible first|refine z27 ?_|refine z28 ?_))|((with_reducible refine gR ?_);(first|refine z31 rfl ?_|refine z32 rfl ?_))|((with_reducible refine gF ?_);(refine z33 rfl ?_))|((with_reducible refine rh ?_);(first|((with_reducible refine st_ordS1 ?s1 ?s2 ?s3 ?_);(case s1=>kernel_rfl);(case s2=>kernel_rfl);(case s3=>exact rfl))|((with_reducible refine st_ordS1g ?s1 ?s2 ?s3 ?_);(case s1=>kernel_rfl);(case s2=>kernel_rfl);(case s3=>exact rfl))|((with_reducible refine st_ordS2 ?s2 ?_);(case s2=>kernel_rfl))|((with_reducible refine st_ordS2g ?s2 ?s3 ?_);(case s2=>kernel_rfl);(case s3=>exact rfl))))|((with_reducible refine ri ?_);(first|refine oQ rfl (by kernel_rfl) rfl ?_|refine nC rfl (by kernel_rfl) rfl ?_)));intro K hK;conv=>whnf)|((with_reducible refine gO ?_);(with_reducible first|refine z0 ?_))|((with_reducible refine gP ?_);(with_reducible first|refine z24 ?_))|((with_reducible refine gX ?_);(with_reducible first|refine z3 ?_|refine z4 ?_|refine z5 ?_|refine z6 ?_|refine z7 ?_|refine z8 ?_|refine z14 ?_|refine z15 ?_))|(with_reducible first|refine z1 ?_|refine z2 ?_|refine z9 ?_|refine z10 ?_|refine z11 ?_|refine z12 ?_|refine z13 ?_|refine z16 ?_|refine z17 ?_|refine z18 ?_|refine z19 ?_|refine z20 ?_|refine z21 ?_|refine z22 ?_|refine z23 ?_)|((with_reducible refine gB ?_);(refine z30 (by decide) ?_))|((with_reducible refine rh ?_);(first|((with_reducible refine st_ordS0 ?s2 ?_);(case s2=>kernel_rfl))|(with_reducible refine lL ?_)))|((with_reducible refine ri ?_);(first|(refine oS rfl (by kernel_rfl) ?_)|(refine oP rfl rfl (by kernel_rfl) (by intro h;cases h) ?_)))|((with_reducible refine gX ?_);(refine nA j rfl rfl (by kernel_rfl) _ rfl ?_))|((with_reducible refine rk ?_);(first|(refine jv ?_ iT;intro K hK;conv=>whnf)|(refine iS rfl ?_ iT;intro K hK;conv=>whnf)))|((first|((with_reducible refine gX ?_);(with_reducible refine z29 ?_)));intro A B hA hB;conv=>whnf)|((refine aY.2 ⟨⟨?s1,?s2⟩,?_⟩;(case s1=>decide +kernel);(case s2=>decide +kernel))<;>(conv=>whnf)))
 (first|exact r.go|(revert K hK;exact r.go)|(revert A B hA hB;exact r.go))):G:=h ⟨⟩ ⟨r⟩
theorem aW {G A' B':Prop} (ra:A') (rb:B') (h:bH A'→bH B'→G:=by
 intro ra rb
 (with_reducible refine rk ?_);(first|refine jv ?_ ?_|refine iS rfl ?_ ?_);(intro K hK;(conv=>whnf);revert K hK;exact ra.go);exact rb.go):G:=h ⟨ra⟩ ⟨rb⟩
end Go.Sx
namespace Go.Proofs.YtmehinfgdcmmjaaGreat
open Go.Sx
set_option maxRecDepth 20000
set_option linter.unusedSimpArgs false
set_option linter.unusedVariables false
set_option maxHeartbeats 2000000
namespace Pd
inductive R (F:Heap):T→List Value→Prop where
 | mk (k f v:Int) (l:List T) (A:Option Addr) (cap:Nat) (g:Nat→List Value) (hs:SlOk (.slice A l.length cap) l.length) (h1:∀ (i:Nat) (x:T),l[i]?=some x→R F x (g i))
   (h2:∀ i,i<l.length→(g i).length=4∧CellsF F (addrOf (.slice A l.length cap)) (i*4) (g i)):R F (.mk k f v l) [.int .i64 k,.int .i64 f,.int .i64 v,.slice A l.length cap]
abbrev Row (F:Heap) (v:Value) (l:List T):Prop:=aH F 4 (R F) v l
def cs (p:T) (u:Value):List AV:=[.int .i64 p.k,.int .i64 p.f,.int .i64 p.v,.hs u p.l.length]
theorem R.inv {F:Heap} {p:T} {us:List Value} (h:R F p us):∃ A cap,Row F (.slice A p.l.length cap) p.l∧us=[.int .i64 p.k,.int .i64 p.f,.int .i64 p.v,.slice A p.l.length cap]:=by
 cases h with
 | mk k f v l A cap g hs h1 h2=>exact ⟨A,cap,⟨hs,fun i x hx=>⟨g i,h1 i x hx,(h2 i (List.getElem?_eq_some_iff.1 hx).1).1,(h2 i (List.getElem?_eq_some_iff.1 hx).1).2⟩⟩,rfl⟩
theorem R.of {F:Heap} {p:T} {A:Option Addr} {cap:Nat} (h:Row F (.slice A p.l.length cap) p.l):R F p [.int .i64 p.k,.int .i64 p.f,.int .i64 p.v,.slice A p.l.length cap]:=by
 obtain ⟨k,f,v,l⟩:=p
 have hg:∀ i:Nat,∃ g:List Value,∀ x,l[i]?=some x→R F x g∧g.length=4∧CellsF F (addrOf (.slice A l.length cap)) (i*4) g:=fun i=>by
  cases hx:l[i]? with
  | none=>exact ⟨[],fun x e=>by cases e⟩
  | some x =>
   obtain ⟨g,h1,h2,h3⟩:=h.at_ i x hx
   exact ⟨g,fun y e=>by cases e;exact ⟨h1,h2,h3⟩⟩
 refine R.mk k f v l A cap (fun i=>Classical.choose (hg i)) h.ok (fun i x hx=>(Classical.choose_spec (hg i) x hx).1) fun i hi=>?_
 have:=Classical.choose_spec (hg i) l[i] (List.getElem?_eq_getElem hi)
 exact ⟨this.2.1,this.2.2⟩
theorem R.mono {F G:Heap} (h:F.le G) {p:T} {us:List Value} (hp:R F p us):R G p us:=by
 induction hp with
 | mk k f v l A cap g hs _ h2 ih=>exact R.mk k f v l A cap g hs ih fun i hi=>⟨(h2 i hi).1,(h2 i hi).2.mono h⟩
theorem Row.mono {F G:Heap} (h:F.le G) {v:Value} {l:List T} (hv:Row F v l):Row G v l:=aH.mono h (fun _ _ hp=>R.mono h hp) hv
theorem Row.get {F:Heap} {v:Value} {l:List T} (h:Row F v l) {i:Nat} {x:T} (hx:l[i]?=some x):∃ A cap,Row F (.slice A x.l.length cap) x.l ∧
  (F.c ((addrOf v).add (i*4)) (.int .i64 x.k)∧F.c ((addrOf v).add (i*4+1)) (.int .i64 x.f)∧F.c ((addrOf v).add (i*4+2)) (.int .i64 x.v)∧F.c ((addrOf v).add (i*4+3)) (.slice A x.l.length cap)):=by
 obtain ⟨us,h1,_,h2⟩:=h.at_ i x hx
 obtain ⟨A,cap,h3,rfl⟩:=h1.inv
 simp only [CellsF,Nat.add_assoc,Nat.reduceAdd] at h2
 obtain ⟨c0,c1,c2,c3,_⟩:=h2
 exact ⟨A,cap,h3,c0,c1,c2,c3⟩
end Pd
section
variable (F:Heap)
theorem gU:∀ (n:Nat) (p:Pd.T) (u:Value),Pd.size p≤n→Pd.size p≤4611686018427387904→Pd.Row F u p.l →
  NCall Tryz.prog 102 [.agg (Pd.cs p u)] [hpB F] fun r m=>r = .int .i64 (Pd.size p:Nat)∧m=[hpB F]
 | 0,p,u,hn,_,_=>absurd (Pd.size_pos p) (by omega)
 | n+1,⟨k,f,v,l⟩,u,hn,hs,hu=>by
  refine NCall.fits (K:=fun r m=>r = .int .i64 (Pd.size (.mk k f v l):Nat)∧MemFits m [hpB F]) ?_ fun r m' h=>⟨r,_,rfl,h.2,h.1,rfl⟩
  have hu:Pd.Row F u l:=hu
  have hok:=hu.ok
  have e:Pd.size (.mk k f v l)=1+Pd.sizeL l:=by rw [Pd.size]
  have hll:=Pd.length_le l
  have ih:∀ x∈l,∀ w,Pd.Row F w x.l→_:=fun x hx w hw=>gU n x w (by have:=Pd.size_lt (k:=k) (f:=f) (v:=v) hx;omega) (by have:=Pd.size_lt (k:=k) (f:=f) (v:=v) hx;omega) hw
  refine aA Tryz.func102 rfl (by decide) ?_
  show funcK _ _ [.agg [.int .i64 k,.int .i64 f,.int .i64 v,.hs u l.length]] _ _
  repeat' first|(refine sxZ ?_;try clear hK K)|refine sxW ?_ ?_<;>intro _|(intro K hK _;conv=>whnf)
  refine aD (α:=Nat) (fun i=>i≤l.length) (fun i=>[.k,.k,.k,.set (.int .i64 (1+Pd.sizeL (l.take i):Nat)),.k,.d,.k,.k,.k,.set (.int .i64 i),.d,.d,.d,.d,.d,.d,.d,.d,.k]) (fun _=>[]) (fun i=>l.length - i) 0 (Nat.zero_le _) ?_ (MemFits.eq rfl) ?_
  ·repeat (first | exact FitsSl.nil | refine FitsSl.any ?_ | refine FitsSl.cons (Fit1.int (by  simp [Pd.sizeL])) ?_ | refine FitsSl.cons (Fit1.int (by first | rfl | omega)) ?_ | refine FitsSl.cons (Fit1.bool rfl) ?_ | refine FitsSl.cons (Fit1.str rfl) ?_ | refine FitsSl.cons (Fit1.same (by intro h;cases h) (by with_reducible rfl)) ?_ | refine FitsSl.cons Fit1.nil_sl ?_ | refine FitsSl.cons (Fit1.hs rfl) ?_ | refine FitsSl.cons (Fit1.hp rfl rfl) ?_ | refine FitsSl.cons (Fit1.sl rfl) ?_ | refine FitsSl.cons (Fit1.ptr rfl rfl) ?_ | refine FitsSl.cons Fit1.raw ?_)
  (intro i hi;intro K hK;(conv=>whnf);refine hK _ _ ?_;clear hK K)
  have hle:=Pd.sizeL_le (l:=l) (k:=i)
  by_cases hlt:i<l.length
  ·have hx:l[i]?=some l[i]:=List.getElem?_eq_getElem hlt
   obtain ⟨A,cap,hA,c0,c1,c2,c3⟩:=hu.get hx
   have hmem:=List.mem_of_getElem? hx
   have hnx:=Pd.sizeL_take hlt
   have hle2:=Pd.sizeL_le (l:=l) (k:=i+1)
   have c:=ih _ hmem _ hA
   simp only [Pd.cs] at c
   generalize l[i]=x at *
   generalize Pd.size x=sx at *
   generalize Pd.sizeL (l.take i)=si at *
   repeat' first|(intro K hK;(with_reducible refine gC ?_);refine cS [0] c ?_)|(refine sxZ ?_;try clear hK K)|refine sxW ?_ ?_<;>intro _|(intro K hK _;conv=>whnf)
   refine aB (i+1) hlt (by omega) ?_ (MemFits.pre 2 rfl)
   repeat (first | exact FitsSl.nil | refine FitsSl.any ?_ | refine FitsSl.cons (Fit1.int (by  omega)) ?_ | refine FitsSl.cons (Fit1.int (by first | rfl | omega)) ?_ | refine FitsSl.cons (Fit1.bool rfl) ?_ | refine FitsSl.cons (Fit1.str rfl) ?_ | refine FitsSl.cons (Fit1.same (by intro h;cases h) (by with_reducible rfl)) ?_ | refine FitsSl.cons Fit1.nil_sl ?_ | refine FitsSl.cons (Fit1.hs rfl) ?_ | refine FitsSl.cons (Fit1.hp rfl rfl) ?_ | refine FitsSl.cons (Fit1.sl rfl) ?_ | refine FitsSl.cons (Fit1.ptr rfl rfl) ?_ | refine FitsSl.cons Fit1.raw ?_)
  ·have hkl:i=l.length:=by omega
   subst hkl
   rw [List.take_length] at hle ⊢
   repeat' first|(refine sxZ ?_;try clear hK K)|refine sxW ?_ ?_<;>intro _|(intro K hK _;conv=>whnf)
   all_goals exact ⟨by rw [e],MemFits.pre 1 rfl⟩
end
theorem ab (k f v:Int) (l:List Pd.T) (u:Value):Pd.cs (.mk k f v l) u=[.int .i64 k,.int .i64 f,.int .i64 v,.hs u l.length]:=rfl
section
variable (F:Heap)
theorem fZ:∀ (n:Nat) (p:Pd.T) (u:Value),Pd.size p≤n→Pd.size p≤4611686018427387904→Pd.Row F u p.l →
  NCall Tryz.prog 39 [.agg (Pd.cs p u)] [hpB F] fun r m=>r = .int .i64 (Pd.size p:Nat)∧m=[hpB F]
 | 0,p,u,hn,_,_=>absurd (Pd.size_pos p) (by omega)
 | n+1,⟨k,f,v,l⟩,u,hn,hs,hu=>by
  refine NCall.fits (K:=fun r m=>r = .int .i64 (Pd.size (.mk k f v l):Nat)∧MemFits m [hpB F]) ?_ fun r m' h=>⟨r,_,rfl,h.2,h.1,rfl⟩
  have hu:Pd.Row F u l:=hu
  have hok:=hu.ok
  have e:Pd.size (.mk k f v l)=1+Pd.sizeL l:=by rw [Pd.size]
  have hll:=Pd.length_le l
  have ih:∀ x∈l,∀ w,Pd.Row F w x.l→_:=fun x hx w hw=>fZ n x w (by have:=Pd.size_lt (k:=k) (f:=f) (v:=v) hx;omega) (by have:=Pd.size_lt (k:=k) (f:=f) (v:=v) hx;omega) hw
  refine aA Tryz.func39 rfl (by decide) ?_
  rw [ab]
  repeat' first|(refine sxZ ?_;try clear hK K)|refine sxW ?_ ?_<;>intro _|(intro K hK _;conv=>whnf)
  refine aD (α:=Nat) (fun i=>i≤l.length) (fun i=>[.k,.k,.k,.set (.int .i64 (1+Pd.sizeL (l.take i):Nat)),.set (.int .i64 i),.d,.d,.d,.d,.d,.d,.d,.d,.d,.d,.d,.d,.d,.d,.d,.k]) (fun _=>[]) (fun i=>l.length - i) 0 (Nat.zero_le _) ?_ (MemFits.eq rfl) ?_
  ·repeat (first | exact FitsSl.nil | refine FitsSl.any ?_ | refine FitsSl.cons (Fit1.int (by  simp [Pd.sizeL])) ?_ | refine FitsSl.cons (Fit1.int (by first | rfl | omega)) ?_ | refine FitsSl.cons (Fit1.bool rfl) ?_ | refine FitsSl.cons (Fit1.str rfl) ?_ | refine FitsSl.cons (Fit1.same (by intro h;cases h) (by with_reducible rfl)) ?_ | refine FitsSl.cons Fit1.nil_sl ?_ | refine FitsSl.cons (Fit1.hs rfl) ?_ | refine FitsSl.cons (Fit1.hp rfl rfl) ?_ | refine FitsSl.cons (Fit1.sl rfl) ?_ | refine FitsSl.cons (Fit1.ptr rfl rfl) ?_ | refine FitsSl.cons Fit1.raw ?_)
  (intro i hi;intro K hK;(conv=>whnf);refine hK _ _ ?_;clear hK K)
  have hle:=Pd.sizeL_le (l:=l) (k:=i)
  by_cases hlt:i<l.length
  ·have hx:l[i]?=some l[i]:=List.getElem?_eq_getElem hlt
   obtain ⟨A,cap,hA,c0,c1,c2,c3⟩:=hu.get hx
   have hmem:=List.mem_of_getElem? hx
   have hnx:=Pd.sizeL_take hlt
   have hle2:=Pd.sizeL_le (l:=l) (k:=i+1)
   have c:=ih _ hmem _ hA
   simp only [Pd.cs] at c
   generalize l[i]=x at *
   generalize Pd.size x=sx at *
   generalize Pd.sizeL (l.take i)=si at *
   repeat' first|(intro K hK;(with_reducible refine gC ?_);refine cS [0] c ?_)|(refine sxZ ?_;try clear hK K)|refine sxW ?_ ?_<;>intro _|(intro K hK _;conv=>whnf)
   refine aB (i+1) hlt (by omega) ?_ (MemFits.eq rfl)
   repeat (first | exact FitsSl.nil | refine FitsSl.any ?_ | refine FitsSl.cons (Fit1.int (by  omega)) ?_ | refine FitsSl.cons (Fit1.int (by first | rfl | omega)) ?_ | refine FitsSl.cons (Fit1.bool rfl) ?_ | refine FitsSl.cons (Fit1.str rfl) ?_ | refine FitsSl.cons (Fit1.same (by intro h;cases h) (by with_reducible rfl)) ?_ | refine FitsSl.cons Fit1.nil_sl ?_ | refine FitsSl.cons (Fit1.hs rfl) ?_ | refine FitsSl.cons (Fit1.hp rfl rfl) ?_ | refine FitsSl.cons (Fit1.sl rfl) ?_ | refine FitsSl.cons (Fit1.ptr rfl rfl) ?_ | refine FitsSl.cons Fit1.raw ?_)
  ·have hkl:i=l.length:=by omega
   subst hkl
   rw [List.take_length] at hle ⊢
   repeat' first|(refine sxZ ?_;try clear hK K)|refine sxW ?_ ?_<;>intro _|(intro K hK _;conv=>whnf)
   all_goals exact ⟨by rw [e],MemFits.pre 1 rfl⟩
theorem kq:∀ (n:Nat) (p:Pd.T) (u:Value),Pd.size p≤n→Pd.size p≤4611686018427387904→Pd.Row F u p.l →
  NCall Tryz.prog 164 [.agg (Pd.cs p u)] [hpB F] fun r m=>r = .int .i64 (Pd.deep p:Nat)∧m=[hpB F]
 | 0,p,u,hn,_,_=>absurd (Pd.size_pos p) (by omega)
 | n+1,⟨k,f,v,l⟩,u,hn,hs,hu=>by
  refine NCall.fits (K:=fun r m=>r = .int .i64 (Pd.deep (.mk k f v l):Nat)∧MemFits m [hpB F]) ?_ fun r m' h=>⟨r,_,rfl,h.2,h.1,rfl⟩
  have hu:Pd.Row F u l:=hu
  have hok:=hu.ok
  have e:Pd.deep (.mk k f v l)=1+Pd.deepL l:=by rw [Pd.deep]
  have e2:Pd.size (.mk k f v l)=1+Pd.sizeL l:=by rw [Pd.size]
  have hll:=Pd.length_le l
  have ih:∀ x∈l,∀ w,Pd.Row F w x.l→_:=fun x hx w hw=>kq n x w (by have:=Pd.size_lt (k:=k) (f:=f) (v:=v) hx;omega) (by have:=Pd.size_lt (k:=k) (f:=f) (v:=v) hx;omega) hw
  refine aA Tryz.func164 rfl (by decide) ?_
  rw [ab]
  repeat' first|(refine sxZ ?_;try clear hK K)|refine sxW ?_ ?_<;>intro _|(intro K hK _;conv=>whnf)
  refine aD (α:=Nat) (fun i=>i≤l.length) (fun i=>[.k,.k,.k,.set (.int .i64 (Pd.deepL (l.take i):Nat)),.k,.d,.k,.k,.k,.set (.int .i64 i),.d,.d,.d,.d,.d,.d,.d,.d,.k,.k]) (fun _=>[]) (fun i=>l.length - i) 0 (Nat.zero_le _) ?_ (MemFits.eq rfl) ?_
  ·repeat (first | exact FitsSl.nil | refine FitsSl.any ?_ | refine FitsSl.cons (Fit1.int (by  simp [Pd.deepL])) ?_ | refine FitsSl.cons (Fit1.int (by first | rfl | omega)) ?_ | refine FitsSl.cons (Fit1.bool rfl) ?_ | refine FitsSl.cons (Fit1.str rfl) ?_ | refine FitsSl.cons (Fit1.same (by intro h;cases h) (by with_reducible rfl)) ?_ | refine FitsSl.cons Fit1.nil_sl ?_ | refine FitsSl.cons (Fit1.hs rfl) ?_ | refine FitsSl.cons (Fit1.hp rfl rfl) ?_ | refine FitsSl.cons (Fit1.sl rfl) ?_ | refine FitsSl.cons (Fit1.ptr rfl rfl) ?_ | refine FitsSl.cons Fit1.raw ?_)
  (intro i hi;intro K hK;(conv=>whnf);refine hK _ _ ?_;clear hK K)
  have hle:=Nat.le_trans (Pd.deepL_size (l.take i)) (Pd.sizeL_le (l:=l) (k:=i))
  by_cases hlt:i<l.length
  ·have hx:l[i]?=some l[i]:=List.getElem?_eq_getElem hlt
   obtain ⟨A,cap,hA,c0,c1,c2,c3⟩:=hu.get hx
   have hmem:=List.mem_of_getElem? hx
   have hnx:=Pd.deepL_take hlt
   have hle2:=Nat.le_trans (Pd.deepL_size (l.take (i+1))) (Pd.sizeL_le (l:=l) (k:=i+1))
   have c:=ih _ hmem _ hA
   simp only [Pd.cs] at c
   generalize l[i]=x at *
   generalize Pd.deep x=sx at *
   generalize Pd.deepL (l.take i)=si at *
   repeat' first|(intro K hK;(with_reducible refine gC ?_);refine cS [0] c ?_)|(refine sxZ ?_;try clear hK K)|refine sxW ?_ ?_<;>intro _|(intro K hK _;conv=>whnf)
   refine aB (i+1) hlt (by omega) ?_ (MemFits.pre 2 rfl)
   repeat (first | exact FitsSl.nil | refine FitsSl.any ?_ | refine FitsSl.cons (Fit1.int (by  omega)) ?_ | refine FitsSl.cons (Fit1.int (by first | rfl | omega)) ?_ | refine FitsSl.cons (Fit1.bool rfl) ?_ | refine FitsSl.cons (Fit1.str rfl) ?_ | refine FitsSl.cons (Fit1.same (by intro h;cases h) (by with_reducible rfl)) ?_ | refine FitsSl.cons Fit1.nil_sl ?_ | refine FitsSl.cons (Fit1.hs rfl) ?_ | refine FitsSl.cons (Fit1.hp rfl rfl) ?_ | refine FitsSl.cons (Fit1.sl rfl) ?_ | refine FitsSl.cons (Fit1.ptr rfl rfl) ?_ | refine FitsSl.cons Fit1.raw ?_)
  ·have hkl:i=l.length:=by omega
   subst hkl
   rw [List.take_length] at hle ⊢
   repeat' first|(refine sxZ ?_;try clear hK K)|refine sxW ?_ ?_<;>intro _|(intro K hK _;conv=>whnf)
   all_goals exact ⟨by rw [e];congr 1;omega,MemFits.pre 1 rfl⟩
end
theorem pj (f:Int):NCall Tryz.prog 115 [.int .i64 f] [] fun r _=>r = .int .i64 (if f=2 then 4 else if f=0∨f=1∨f=3 then 8 else 0):=by
 refine aA Tryz.func115 rfl (by decide) ?_
 by_cases h:0≤f∧f≤3
 ·have:f=0∨f=1∨f=2∨f=3:=by omega
  rcases this with rfl | rfl | rfl | rfl
  all_goals (repeat' first|(refine sxZ ?_;try clear hK K)|refine sxW ?_ ?_<;>intro _|(intro K hK _;conv=>whnf))
  all_goals rfl
 ·rw [if_neg (by omega),if_neg (by omega)]
  repeat' first|(refine sxZ ?_;try clear hK K)|refine sxW ?_ ?_<;>intro _|(intro K hK _;conv=>whnf)
  all_goals first | rfl | (exfalso;omega)
theorem kF (f:Int):NCall Tryz.prog 89 [.int .i64 f] [] fun r _=>r = .int .i64 (if f=2 then 15 else if f=0∨f=1∨f=3 then 255 else 0):=by
 have c:=pj f
 have e4:IntKind.i64.wrap (1*2 ^ min (Int.toNat 4) IntKind.i64.bits)=16:=by decide +kernel
 have e8:IntKind.i64.wrap (1*2 ^ min (Int.toNat 8) IntKind.i64.bits)=256:=by decide +kernel
 have e0:IntKind.i64.wrap (1*2 ^ min (Int.toNat 0) IntKind.i64.bits)=1:=by decide +kernel
 refine aA Tryz.func89 rfl (by decide) ?_
 by_cases h2:f=2
 ·rw [if_pos h2] at c ⊢
  (repeat' (first|(with_reducible first|(refine hK _ _ ?_;clear hK K)|(refine hA ?_;clear hA hB A B)|(refine hB ?_;clear hA hB A B)|(refine hK _ ?_;clear hK K))|((first|((with_reducible refine gC ?_);refine NCall.pureE (c) ?_)|(with_reducible refine NV.eq (e4) ?_))<;>(conv=>whnf))|refine dB ?_|refine dQ ?_|((with_reducible refine gX ?_);refine z34 (by kernel_rfl) (by kernel_rfl) ?_)|(refine bQ ?_;intro K hK;conv=>whnf)|(refine bF ?_;intro A B hA hB;conv=>whnf)|((with_reducible first|refine NIf.dec (fun _=>?_) (fun _=>?_)|refine NIf.both (fun _=>?_) (fun _=>?_))<;>(conv=>whnf))|((intro _;skip)<;>(conv=>whnf))))
  all_goals rfl
 ·rw [if_neg h2] at c ⊢
  by_cases h3:f=0∨f=1∨f=3
  ·rw [if_pos h3] at c ⊢
   (repeat' (first|(with_reducible first|(refine hK _ _ ?_;clear hK K)|(refine hA ?_;clear hA hB A B)|(refine hB ?_;clear hA hB A B)|(refine hK _ ?_;clear hK K))|((first|((with_reducible refine gC ?_);refine NCall.pureE (c) ?_)|(with_reducible refine NV.eq (e8) ?_))<;>(conv=>whnf))|refine dB ?_|refine dQ ?_|((with_reducible refine gX ?_);refine z34 (by kernel_rfl) (by kernel_rfl) ?_)|(refine bQ ?_;intro K hK;conv=>whnf)|(refine bF ?_;intro A B hA hB;conv=>whnf)|((with_reducible first|refine NIf.dec (fun _=>?_) (fun _=>?_)|refine NIf.both (fun _=>?_) (fun _=>?_))<;>(conv=>whnf))|((intro _;skip)<;>(conv=>whnf))))
   all_goals rfl
  ·rw [if_neg h3] at c ⊢
   (repeat' (first|(with_reducible first|(refine hK _ _ ?_;clear hK K)|(refine hA ?_;clear hA hB A B)|(refine hB ?_;clear hA hB A B)|(refine hK _ ?_;clear hK K))|((first|((with_reducible refine gC ?_);refine NCall.pureE (c) ?_)|(with_reducible refine NV.eq (e0) ?_))<;>(conv=>whnf))|refine dB ?_|refine dQ ?_|((with_reducible refine gX ?_);refine z34 (by kernel_rfl) (by kernel_rfl) ?_)|(refine bQ ?_;intro K hK;conv=>whnf)|(refine bF ?_;intro A B hA hB;conv=>whnf)|((with_reducible first|refine NIf.dec (fun _=>?_) (fun _=>?_)|refine NIf.both (fun _=>?_) (fun _=>?_))<;>(conv=>whnf))|((intro _;skip)<;>(conv=>whnf))))
   all_goals rfl
theorem nH (f:Int):NCall Tryz.prog 18 [.int .i64 f] [] fun r _=>r = .int .i64 (if f=2 then 15 else if f=0∨f=1∨f=3 then 255 else 0):=by
 refine aA Tryz.func18 rfl (by decide) ?_
 by_cases h2:f=2
 ·rw [if_pos h2]
  repeat' first|(refine sxZ ?_;try clear hK K)|refine sxW ?_ ?_<;>intro _|(intro K hK _;conv=>whnf)
  all_goals first | rfl | (exfalso;omega)
 ·rw [if_neg h2]
  by_cases h3:f=0∨f=1∨f=3
  ·rw [if_pos h3]
   repeat' first|(refine sxZ ?_;try clear hK K)|refine sxW ?_ ?_<;>intro _|(intro K hK _;conv=>whnf)
   all_goals first | rfl | (exfalso;omega)
  ·rw [if_neg h3]
   repeat' first|(refine sxZ ?_;try clear hK K)|refine sxW ?_ ?_<;>intro _|(intro K hK _;conv=>whnf)
   all_goals first | rfl | (exfalso;omega)
theorem mN (f:Int):NCall Tryz.prog 133 [.int .i64 f] [] fun r _=>r = .int .i64 (Pd.top f):=by
 have c:=kF f
 refine aA Tryz.func133 rfl (by decide) ?_
 unfold Pd.top
 by_cases h:f=4∨f=5
 ·rw [if_pos h]
  repeat' first|(refine sxZ ?_;try clear hK K)|refine sxW ?_ ?_<;>intro _|(intro K hK _;conv=>whnf)
  all_goals first | rfl | (exfalso;omega)
 ·rw [if_neg h]
  repeat' first|(intro K hK;(with_reducible refine gC ?_);refine cP c ?_)|(refine sxZ ?_;try clear hK K)|refine sxW ?_ ?_<;>intro _|(intro K hK _;conv=>whnf)
  all_goals first | rfl | (exfalso;omega)
theorem lR (f:Int):NCall Tryz.prog 37 [.int .i64 f] [] fun r _=>r = .int .i64 (Pd.top f):=by
 have c:=nH f
 refine aA Tryz.func37 rfl (by decide) ?_
 unfold Pd.top
 by_cases h:f=4∨f=5
 ·rw [if_pos h]
  repeat' first|(refine sxZ ?_;try clear hK K)|refine sxW ?_ ?_<;>intro _|(intro K hK _;conv=>whnf)
  all_goals first | rfl | (exfalso;omega)
 ·rw [if_neg h]
  repeat' first|(intro K hK;(with_reducible refine gC ?_);refine cP c ?_)|(refine sxZ ?_;try clear hK K)|refine sxW ?_ ?_<;>intro _|(intro K hK _;conv=>whnf)
  all_goals first | rfl | (exfalso;omega)
theorem qe (f:Int) (x:Pd.At):NCall Tryz.prog 210 [.int .i64 f,.int .i64 x.sw,.int .i64 x.port,.agg [.int .i64 x.p0,.int .i64 x.p1,.int .i64 x.p2,.int .i64 x.p3]] [] fun r _=>r = .int .i64 (Pd.get f x):=by
 refine aA Tryz.func210 rfl (by decide) ?_
 unfold Pd.get
 by_cases h:0≤f∧f≤5
 ·have:f=0∨f=1∨f=2∨f=3∨f=4∨f=5:=by omega
  rcases this with rfl | rfl | rfl | rfl | rfl | rfl
  all_goals (repeat' first|(refine sxZ ?_;try clear hK K)|refine sxW ?_ ?_<;>intro _|(intro K hK _;conv=>whnf))
  all_goals first | rfl | (exfalso;omega)
 ·rw [if_neg (by omega),if_neg (by omega),if_neg (by omega),if_neg (by omega),if_neg (by omega),if_neg (by omega)]
  repeat' first|(refine sxZ ?_;try clear hK K)|refine sxW ?_ ?_<;>intro _|(intro K hK _;conv=>whnf)
  all_goals first | rfl | (exfalso;omega)
theorem lY (f:Int) (x:Pd.At):NCall Tryz.prog 62 [.int .i64 f,.int .i64 x.sw,.int .i64 x.port,.agg [.int .i64 x.p0,.int .i64 x.p1,.int .i64 x.p2,.int .i64 x.p3]] [] fun r _=>r = .int .i64 (Pd.get f x):=by
 refine aA Tryz.func62 rfl (by decide) ?_
 unfold Pd.get
 by_cases h:0≤f∧f≤5
 ·have:f=0∨f=1∨f=2∨f=3∨f=4∨f=5:=by omega
  rcases this with rfl | rfl | rfl | rfl | rfl | rfl
  all_goals (repeat' first|(refine sxZ ?_;try clear hK K)|refine sxW ?_ ?_<;>intro _|(intro K hK _;conv=>whnf))
  all_goals first | rfl | (exfalso;omega)
 ·rw [if_neg (by omega),if_neg (by omega),if_neg (by omega),if_neg (by omega),if_neg (by omega),if_neg (by omega)]
  repeat' first|(refine sxZ ?_;try clear hK K)|refine sxW ?_ ?_<;>intro _|(intro K hK _;conv=>whnf)
  all_goals first | rfl | (exfalso;omega)
end Go.Proofs.YtmehinfgdcmmjaaGreat
