/- A part of the proof. -/
import Derived.Test.YtmehinfgdcmmjaaGreatDoorTJ5
import Derived.Test.YtmehinfgdcmmjaaGreatDoorTJ12
import Derived.Test.YtmehinfgdcmmjaaGreatDoorTJ3
import Derived.Test.YtmehinfgdcmmjaaGreatDoorTJ4
namespace Go.Proofs.YtmehinfgdcmmjaaGreatDoor
open Go.Sx
set_option linter.unusedVariables false
set_option maxRecDepth 20000
namespace Cm
open Po (S)
def set1 (f v:Int):List Ac.A:=if 0≤v then [⟨1,f,v⟩] else []
def sets (s:S):List Ac.A:=set1 0 s.p0++set1 1 s.p1++set1 2 s.p2++set1 3 s.p3
def back (p:Bool):List Ac.A:=if p=true then [⟨3,0,0⟩] else []
def port (cp:Int) (s:S):Int:=if s.port<0 then cp else s.port
def step (cp:Int) (o:List Ac.A × Bool) (s:S):List Ac.A × Bool:=(o.1++back o.2++sets s++[⟨2,0,port cp s⟩],!(sets s).isEmpty)
def st (cp:Int) (l:List S):List Ac.A × Bool:=l.foldl (step cp) ([],false)
theorem st_next {cp:Int} {l:List S} {k:Nat} (h:k<l.length):st cp (l.take (k+1))=step cp (st cp (l.take k)) l[k]:=by
 unfold st
 rw [List.take_add_one,List.getElem?_eq_getElem h,List.foldl_append]
 rfl
theorem st_flag {cp:Int} {l:List S} {k:Nat} (h:k<l.length):(st cp (l.take (k+1))).2=!(sets l[k]).isEmpty:=by rw [st_next h];rfl
def ported (cp:Int) (l:List S):Prop:=∀ s∈l,0≤port cp s
instance (cp:Int) (l:List S):Decidable (ported cp l):=by unfold ported;infer_instance
def acts (c:Tr.C):List Ac.A × Int:=if ported c.s.port c.out then (if (st c.s.port c.out).1.length>16 then ([],6) else ((st c.s.port c.out).1,0)) else ([],13)
theorem set1_len (f v:Int):(set1 f v).length≤1:=by unfold set1;split<;>simp
theorem sets_len (s:S):(sets s).length≤4:=by
 have h0:=set1_len 0 s.p0
 have h1:=set1_len 1 s.p1
 have h2:=set1_len 2 s.p2
 have h3:=set1_len 3 s.p3
 unfold sets
 simp only [List.length_append]
 omega
theorem st_len (cp:Int):∀ l:List S,(st cp l).1.length≤6*l.length:=by
 intro l
 have h:∀ (l:List S) (o:List Ac.A × Bool),(l.foldl (step cp) o).1.length≤o.1.length+6*l.length:=by
  intro l
  induction l with
  | nil=>intro o;simp
  | cons x l ih =>
   intro o
   have h1:=ih (step cp o x)
   have h2:=sets_len x
   have h3:(back o.2).length≤1:=by unfold back;split<;>simp
   have h4:(step cp o x).1.length≤o.1.length+6:=by
    unfold step
    simp only [List.length_append,List.length_cons,List.length_nil]
    omega
   rw [List.foldl_cons,List.length_cons]
   omega
 have:=h l ([],false)
 simpa [st] using this
def vf (v:Int):Int:=if 0≤v then v else 0
def mf (f v:Int):Int:=if 0≤v then Mt.top f else 0
def mt (s:S):Mt.M:=⟨if 0≤s.port then s.port else -1,vf s.p0,vf s.p1,vf s.p2,vf s.p3,mf 0 s.p0,mf 1 s.p1,mf 2 s.p2,mf 3 s.p3⟩
def rule (n i:Nat) (c:Tr.C):Ru.R:=⟨((n - i:Nat):Int),mt c.s,(acts c).1⟩
def rules (n:Nat):Nat→List Tr.C→List Ru.R
 | _,[]=>[]
 | i,c::l=>rule n i c::rules n (i+1) l
theorem rules_len (n:Nat):∀ (l:List Tr.C) (i:Nat),(rules n i l).length=l.length
 | [],_=>rfl
 | c::l,i=>by rw [rules,List.length_cons,rules_len n l,List.length_cons]
theorem rules_at (n:Nat):∀ (l:List Tr.C) (i k:Nat) (h:k<l.length),(rules n i l)[k]?=some (rule n (i+k) l[k])
 | [],_,k,h=>absurd h (Nat.not_lt_zero _)
 | c::l,i,0,_=>rfl
 | c::l,i,k+1,h=>by
  rw [rules,List.getElem?_cons_succ,rules_at n l (i+1) k (by simpa using h)]
  rw [List.getElem_cons_succ,show i+1+k=i+(k+1) by omega]
theorem rules_app (n:Nat) (b:List Tr.C):∀ (a:List Tr.C) (i:Nat),rules n i (a++b)=rules n i a++rules n (i+a.length) b
 | [],i=>rfl
 | c::a,i=>by
  rw [List.cons_append,rules,rules,rules_app n b a (i+1),List.length_cons,List.cons_append,show i+1+a.length=i+(a.length+1) by omega]
theorem rules_next (n:Nat) (l:List Tr.C) {k:Nat} (h:k<l.length):rules n 0 (l.take (k+1))=rules n 0 (l.take k)++[rule n k l[k]]:=by
 rw [List.take_add_one,List.getElem?_eq_getElem h,rules_app,List.length_take,Nat.min_eq_left (Nat.le_of_lt h),Nat.zero_add]
 rfl
def scan:List Tr.C→Int
 | []=>0
 | c::l=>if (acts c).2=0 then scan l else (acts c).2
theorem scan_app (b:List Tr.C):∀ a:List Tr.C,scan a=0→scan (a++b)=scan b
 | [],_=>rfl
 | c::a,h=>by
  rw [scan] at h
  rw [List.cons_append,scan]
  by_cases h0:(acts c).2=0
  ·rw [if_pos h0] at h ⊢;exact scan_app b a h
  ·rw [if_neg h0] at h;exact absurd h h0
theorem scan_at {l:List Tr.C} {k:Nat} (h:k<l.length) (h0:scan (l.take k)=0) (hx:(acts l[k]).2≠0):scan l=(acts l[k]).2:=by
 have e:l=l.take k++(l[k]::l.drop (k+1)):=by
  rw [← List.drop_eq_getElem_cons h,List.take_append_drop]
 have h2:=scan_app (l[k]::l.drop (k+1)) (l.take k) h0
 rw [← e] at h2
 rw [h2,scan,if_neg hx]
theorem scan_next {l:List Tr.C} {k:Nat} (h:k<l.length) (h0:scan (l.take k)=0) (hx:(acts l[k]).2=0):scan (l.take (k+1))=0:=by
 rw [List.take_add_one,List.getElem?_eq_getElem h,scan_app _ _ h0]
 show scan [l[k]]=0
 rw [scan,if_pos hx];rfl
def tbl (l:List Tr.C) (e room:Int):List Ru.R × Int:=if e≠0 then ([],e) else if scan l≠0 then ([],scan l) else if (l.length:Int)>room then ([],6) else (rules l.length 0 l,0)
def okS (s:S):Prop:=∀ f,Tr.ok f→Tr.gt f s = -1∨(0≤Tr.gt f s∧Tr.gt f s≤Pd.top f)
theorem okS_start:okS Tr.start:=fun f hf=>by
 rcases Tr.ok5 hf with rfl | rfl | rfl | rfl | rfl<;>exact .inl rfl
theorem okS_with {f v:Int} (hf:Tr.ok f) (hv:0≤v∧v≤Pd.top f) {s:S} (h:okS s):okS (Tr.withK f v s):=fun g hg=>by
 by_cases e:g=f
 ·subst e;rw [Tr.gt_same];exact .inr hv
 ·rw [Tr.gt_other v s hf hg e];exact h g hg
theorem outs_ok {sw:Int} {y:Po.T} (hy:Po.fits y=true) {s:S} (hs:okS s):∀ u∈Tr.outs sw y s,okS u:=fun u hu=>by
 rw [← Tr.outs_mem,List.mem_map] at hu
 obtain ⟨w,hw,rfl⟩:=hu
 have hk:=Tr.runs_keep sw (fun f v=>0≤v∧v≤Pd.top f) _ y (Nat.le_refl _) hy (fun f v _ h=>Po.vals_top f y hy v h) s w hw
 intro f hf
 rw [Tr.gt_came hf]
 have h1:=hk f hf
 have h2:=hs f hf
 by_cases h4:f=4
 ·rw [if_pos h4]
  rcases h1 with h1 | h1
  ·rw [h1];exact h2
  ·exact .inr h1
 ·rw [if_neg h4]
  unfold Tr.came
  split
  ·exact .inl rfl
  ·rcases h1 with h1 | h1
   ·rename_i hne;exact absurd h1 hne
   ·exact .inr h1
theorem cases_ok {sw:Int} {y:Po.T} (hy:Po.fits y=true):∀ (fs:List Int) (s:S),(∀ f∈fs,Tr.ok f)→okS s→∀ c∈Tr.cases sw y fs s,okS c.s∧∀ u∈c.out,okS u
 | [],s,_,hs,c,h=>by
  rw [Tr.cases,List.mem_singleton] at h
  rw [h]
  exact ⟨hs,outs_ok hy hs⟩
 | f::rest,s,hf,hs,c,h=>by
  have hr:∀ g∈rest,Tr.ok g:=fun g hg=>hf g (List.mem_cons_of_mem _ hg)
  rcases Tr.mem_cases h with ⟨v,hv,h⟩ | h
  ·exact cases_ok hy rest _ hr (okS_with (hf f (List.mem_cons_self ..)) (Po.vals_top f y hy v ((Po.values_mem f y v).1 hv)) hs) c h
  ·exact cases_ok hy rest s hr hs c h
theorem all_ok {sw:Int} {x:Po.T} (hx:Po.fits x=true):∀ c∈Tr.all sw x,okS c.s∧∀ u∈c.out,okS u :=
 cases_ok (Po.spec_fits sw x hx) Tr.order Tr.start (fun f h=>Tr.mem_order.1 h) okS_start
theorem top_eq {f:Int} (hf:0≤f∧f≤3):Pd.top f=Mt.top f:=by
 have:f=0∨f=1∨f=2∨f=3:=by omega
 rcases this with rfl | rfl | rfl | rfl<;>rfl
theorem set1_ok {f v:Int} (hf:0≤f∧f≤3) (hv:v = -1∨(0≤v∧v≤Pd.top f)):∀ a∈set1 f v,Ac.ok1 8 a:=fun a ha=>by
 unfold set1 at ha
 split at ha
 ·rw [List.mem_singleton] at ha
  subst ha
  have h2:v≤Mt.top f:=by rw [← top_eq hf];omega
  exact .inl ⟨rfl,hf.1,hf.2,by assumption,h2⟩
 ·cases ha
theorem sets_ok {s:S} (h:okS s):∀ a∈sets s,Ac.ok1 8 a:=fun a ha=>by
 have h0:=h 0 (by decide)
 have h1:=h 1 (by decide)
 have h2:=h 2 (by decide)
 have h3:=h 3 (by decide)
 unfold sets at ha
 simp only [List.mem_append] at ha
 rcases ha with ((ha | ha) | ha) | ha
 ·exact set1_ok (by decide) h0 a ha
 ·exact set1_ok (by decide) h1 a ha
 ·exact set1_ok (by decide) h2 a ha
 ·exact set1_ok (by decide) h3 a ha
theorem st_ok {cp:Int}:∀ {l:List S},(∀ u∈l,okS u)→(∀ u∈l,0≤port cp u∧port cp u<8)→∀ a∈(st cp l).1,Ac.ok1 8 a:=by
 intro l hl hp
 have h:∀ (l:List S) (o:List Ac.A × Bool),(∀ u∈l,okS u)→(∀ u∈l,0≤port cp u∧port cp u<8)→(∀ a∈o.1,Ac.ok1 8 a)→∀ a∈(l.foldl (step cp) o).1,Ac.ok1 8 a:=by
  intro l
  induction l with
  | nil=>intro o _ _ ho a ha;exact ho a ha
  | cons x l ih =>
   intro o hl hp ho a ha
   rw [List.foldl_cons] at ha
   refine ih (step cp o x) (fun u hu=>hl u (List.mem_cons_of_mem _ hu)) (fun u hu=>hp u (List.mem_cons_of_mem _ hu)) (fun b hb=>?_) a ha
   unfold step at hb
   simp only [List.mem_append,List.mem_singleton] at hb
   rcases hb with ((hb | hb) | hb) | hb
   ·exact ho b hb
   ·unfold back at hb
    split at hb
    ·rw [List.mem_singleton] at hb;subst hb;exact .inr (.inr ⟨rfl,rfl,rfl⟩)
    ·cases hb
   ·exact sets_ok (hl x (List.mem_cons_self ..)) b hb
   ·subst hb
    have:=hp x (List.mem_cons_self ..)
    exact .inr (.inl ⟨rfl,rfl,this.1,this.2⟩)
 exact h l _ hl hp (fun a ha=>by cases ha)
theorem acts_ok {c:Tr.C} (hs:okS c.s) (ho:∀ u∈c.out,okS u):Ac.okL 8 (acts c).1:=by
 unfold acts
 split
 ·rename_i hp
  split
  ·exact ⟨by simp,fun a ha=>by cases ha⟩
  ·rename_i h
   refine ⟨by dsimp only;omega,st_ok ho fun u hu=>⟨hp u hu,?_⟩⟩
   have h1:=hs 4 (by decide)
   have h2:=ho u hu 4 (by decide)
   have e1:Tr.gt 4 c.s=c.s.port:=rfl
   have e2:Tr.gt 4 u=u.port:=rfl
   have e3:Pd.top 4=7:=by decide
   rw [e1,e3] at h1
   rw [e2,e3] at h2
   unfold port
   split<;>omega
 ·exact ⟨by simp,fun a ha=>by cases ha⟩
theorem fok {f v:Int} (hf:0≤f∧f≤3) (hv:v = -1∨(0≤v∧v≤Pd.top f)):Mt.FOk (Mt.top f) (vf v) (mf f v):=by
 rw [top_eq hf] at hv
 have h4:f=0∨f=1∨f=2∨f=3:=by omega
 have key:∀ t:Int,(t=255∨t=15)→0≤v→v≤t→∀ i,i<8→Mt.bit v i≤Mt.bit t i:=by
  intro t ht h0 hle
  obtain ⟨n,rfl⟩:=Int.eq_ofNat_of_zero_le h0
  rcases ht with rfl | rfl
  ·have:∀ n:Nat,n≤255→∀ i,i<8→Mt.bit (n:Int) i≤Mt.bit 255 i:=by decide +kernel
   exact this n (by omega)
  ·have:∀ n:Nat,n≤15→∀ i,i<8→Mt.bit (n:Int) i≤Mt.bit 15 i:=by decide +kernel
   exact this n (by omega)
 have ht:Mt.top f=255∨Mt.top f=15:=by rcases h4 with rfl | rfl | rfl | rfl<;>decide
 unfold vf mf
 by_cases h0:0≤v
 ·rw [if_pos h0,if_pos h0]
  have hle:v≤Mt.top f:=by omega
  have:=key (Mt.top f) ht h0 hle
  exact ⟨by omega,Int.le_refl _,h0,hle,this⟩
 ·rw [if_neg h0,if_neg h0]
  exact ⟨Int.le_refl _,by omega,Int.le_refl _,by omega,fun i _=>Int.le_refl _⟩
theorem mt_ok {s:S} (h:okS s):(mt s).ok:=by
 refine ⟨?_,fun f hf=>?_⟩
 ·have h4:=h 4 (by decide)
  have e1:Tr.gt 4 s=s.port:=rfl
  have e3:Pd.top 4=7:=by decide
  rw [e1,e3] at h4
  show -1≤(if 0≤s.port then s.port else -1)∧(if 0≤s.port then s.port else -1)≤7
  split<;>omega
 ·have:f=0∨f=1∨f=2∨f=3:=by omega
  rcases this with rfl | rfl | rfl | rfl
  ·exact fok (by decide) (h 0 (by decide))
  ·exact fok (by decide) (h 1 (by decide))
  ·exact fok (by decide) (h 2 (by decide))
  ·exact fok (by decide) (h 3 (by decide))
end Cm
set_option linter.unusedSimpArgs false
set_option maxHeartbeats 4000000
def apM (F:Heap) (Bs:Nat) (u:Value) (pre:List Po.S):List Blk :=
 [hpB F,⟨⟨Bs,0,none⟩,[.sl 2 u pre.length],.var 44⟩,⟨addrOf u,Po.savs pre,.row u 48 5 pre.length⟩]
def qW (F:Heap) (sl:List AV) (pre:List Po.S) (m:List Blk):Prop :=
 ∃ Bs u,sl[2]?=some (.ptr 1 ⟨Bs,0,none⟩ 0)∧m=apM F Bs u pre
theorem lu {i j a b:Nat} (h:some (AV.ptr i ⟨a,0,none⟩ 0)=some (AV.ptr j ⟨b,0,none⟩ 0)):a=b:=by
 injection h with h
 injection h with _ h _
 injection h
theorem iZ {F:Heap} {Bs Bs':Nat} {u u':Value} {s s':List Po.S}:∀ k∈apM F Bs u s,dA (apM F Bs' u' s') k:=by
 intro k hk
 simp only [apM,List.mem_cons,List.not_mem_nil,or_false] at hk
 rcases hk with rfl | rfl | rfl
 ·exact List.mem_cons_self ..
 ·trivial
 ·trivial
theorem pe {F:Heap} {Bs:Nat} {u0:Value} {w:World} {sl:List AV} (h2:sl[2]?=some (.ptr 1 ⟨Bs,0,none⟩ 0)) (hm:Qx (apM F Bs u0 []) w):∃ Foot,pm (apM F Bs u0 []) (qW F sl) Foot w:=by
 have lF:∀ b,(hpB F).foot b→b<w.heap.size:=fun b hb=>(hm.holds _ (by simp [apM])).lt hb
 have lU:Bs<w.heap.size:=(hm.holds _ (List.mem_cons_of_mem _ (List.mem_cons_self ..))).lt rfl
 refine ⟨fun W b=>∃ (x:Value) (t:TypeId),W.heap[Bs]?=some (.cells #[x] t (0,0))∧x.ownBlock=some b,?_,?_⟩
 ·rintro pre m1 W ⟨Bs',u,e2,rfl⟩ hmo b hb
  rw [h2] at e2
  obtain rfl:=lu e2
  have hO:=(hmo.holds ⟨⟨Bs,0,none⟩,[.sl 2 u pre.length],.var 44⟩ (by simp [apM])).2.2
  have hR:=(hmo.holds ⟨addrOf u,Po.savs pre,.row u 48 5 pre.length⟩ (by simp [apM])).1.2
  have hslu:aw u=u:=by rcases hR with ⟨rfl,_⟩ | ⟨g,cp,cur,rfl,_⟩<;>rfl
  have hO':W.heap[Bs]?=some (.cells #[u] 44 (0,0)):=by
   have:(denL [AV.sl 2 u pre.length]).toArray=#[u]:=by simp [denL,AV.den,hslu]
   rw [this] at hO
   exact hO
  constructor
  ·rintro ⟨k,hk,hkb⟩
   simp only [apM,List.mem_cons,List.not_mem_nil,or_false] at hk
   rcases hk with rfl | rfl | rfl
   ·exact absurd (lF b hkb) (by omega)
   ·simp only [Blk.foot,Blk.bn,Option.some.injEq] at hkb
    omega
   ·exact ⟨u,_,hO',hkb⟩
  ·rintro ⟨x,t,hx,hxb⟩
   rw [hO'] at hx
   injection hx with hx
   injection hx with hx _ _
   have hx:u=x:=by simpa using hx
   subst hx
   exact ⟨⟨addrOf u,Po.savs pre,.row u 48 5 pre.length⟩,(List.mem_cons_of_mem _ (List.mem_cons_of_mem _ (List.mem_cons_self ..))),hxb⟩
 ·rintro W W' row b hsz hg hr ⟨x,t,hx,hxb⟩
  refine ⟨x,t,?_,hxb⟩
  rw [← hx]
  exact (hg.block Bs (by omega) fun e=>by have:=hr Bs e.symm;omega).symm
theorem Po.savs_next (pre:List Po.S) (t:Po.S):Po.savs (pre++[t])=Po.savs pre++[.int .i64 t.port,.int .i64 t.p0,.int .i64 t.p1,.int .i64 t.p2,.int .i64 t.p3]:=by
 rw [Po.savs_append];rfl
theorem gp (F:Heap) (b:Nat) (N:List Po.S) (hn:N.length≤1000000) (cap:Addr) (hc:F.c cap (.map (some b))) (hb:F.o b (aV (Po.sM N))) :
  Qz Tryz.prog 112 [.raw (.slice none 0 0),.fn 71 [] [.hp cap 0]] [hpB F] fun r m=>∃ (u:Value) (L:List Po.S),L.Perm N∧r.den=aw u∧Qw m [hpB F,⟨addrOf u,Po.savs L,.row u 48 5 L.length⟩]:=by
 refine i6 Tryz.func112 rfl (by decide) rfl rfl qQ (fun x=>x.av) 5 48 (fun ys=>ys.Perm N) N.length (qW F) (fun _=>rfl) ?_
 repeat' first|(refine sxZ ?_;try clear hK K)|refine sxW ?_ ?_<;>intro _|(intro K hK _;conv=>whnf)|(intro _;conv=>whnf)
 rename_i Bs
 refine ⟨rfl,71,[.hp cap 0],apM F Bs (.slice none 0 0) [],?_,?_,Go.Sx.enters_of Tryz.func71 rfl (by decide),
  lf F b N _ (List.mem_cons_self ..) cap hc hb,⟨Bs,.slice none 0 0,rfl,rfl⟩,iZ,fun w hm=>pe rfl hm,?_,?_,?_⟩
 ·exact (Qw.nilRow _ 48 5).trans (Qw.congr rfl)
 ·show (AV.fn _ [] [AV.hp _ 0]).den=_
  rfl
 ·rintro pre x m2 ⟨Bs',u,e2,rfl⟩
  clear e2
  unfold apM
  repeat' first|(refine sxZ ?_;try clear hK K)|refine sxW ?_ ?_<;>intro _|(intro K hK _;conv=>whnf)
  exact ⟨rfl,_,rfl,rfl⟩
 ·rintro pre x b2 m2 hlt ⟨Bs',u,e2,rfl⟩
  obtain rfl:=lu (show some (AV.ptr 1 ⟨Bs,0,none⟩ 0)=some (AV.ptr 1 ⟨Bs',0,none⟩ 0) from e2)
  have hmm:∀ u',qW F _ (pre++[x]) (apM F Bs u' (pre++[x])):=fun u'=>⟨Bs,u',e2,rfl⟩
  clear e2
  have hfit:∀ u' m3,Qw m3 (apM F Bs u' (pre++[x]))→∃ m4,Qw m3 m4∧qW F _ (pre++[x]) m4∧∀ k∈m4,dA (apM F Bs (.slice none 0 0) []) k :=
   fun u' m3 h=>⟨_,h,hmm u',iZ⟩
  clear hmm
  have hal:=Po.savs_len pre
  have hnx:=Po.savs_next pre x
  have hl2:(pre++[x]).length=pre.length+1:=by simp
  unfold apM at hfit ⊢
  rw [hnx,hl2] at hfit
  generalize Po.savs pre=ps at *
  obtain ⟨a0,q0,q1,q2,q3⟩:=x
  simp only [Po.S.av] at *
  repeat' first|(refine sxZ ?_;try clear hK K)|refine sxW ?_ ?_<;>intro _|(intro K hK _;conv=>whnf)
  all_goals
   rename_i v2
   refine ⟨rfl,hfit v2 _ (Qw.pre 3 ?_)⟩
   rfl
 ·rintro xs m2 hxs ⟨Bs',u,e2,rfl⟩
  obtain rfl:=lu (show some (AV.ptr 1 ⟨Bs,0,none⟩ 0)=some (AV.ptr 1 ⟨Bs',0,none⟩ 0) from e2)
  clear e2
  unfold apM
  repeat' first|(refine sxZ ?_;try clear hK K)|refine sxW ?_ ?_<;>intro _|(intro K hK _;conv=>whnf)
  all_goals exact ⟨u,xs,hxs,rfl,Qw.pick [0,2] (by decide) rfl⟩
namespace Po
abbrev SRow (F:Heap) (v:Value) (l:List S):Prop:=aI F 5 (fun x vs=>vs=x.vs) v l
end Po
theorem kf (F:Heap) (b:Nat) (N:List Po.S) (hn:N.length≤1000000) (cap:Addr) (hc:F.c cap (.map (some b))) (hb:F.o b (aV (Po.sM N))) :
  Qz Tryz.prog 69 [.fn 71 [] [.hp cap 0]] [hpB F] fun r m=>∃ (u:Value) (L:List Po.S),L.Perm N∧r = .sl 1 u L.length∧m=[hpB F,⟨addrOf u,Po.savs L,.row u 48 5 L.length⟩]:=by
 have ca:=Qz.fits (gp F b N hn cap hc hb) (K':=fun r m=>∃ (u:Value) (L:List Po.S),L.Perm N∧r = .sl 1 u L.length∧m=[hpB F,⟨addrOf u,Po.savs L,.row u 48 5 L.length⟩]) fun r m ⟨u,L,h1,h2,h3⟩=>⟨.sl 1 u L.length,_,h2.symm,h3,u,L,h1,rfl,rfl⟩
 refine aB Tryz.func69 rfl (by decide) ?_
 repeat' first|(intro K hK;(with_reducible refine gC ?_);(refine cN [0] ca ?_;rintro _ _ ⟨u,L,hp,rfl,rfl⟩;refine cR ?_))|(refine sxZ ?_;try clear hK K)|refine sxW ?_ ?_<;>intro _|(intro K hK _;conv=>whnf)
 all_goals exact ⟨u,L,hp,rfl,rfl⟩
theorem fp (F:Heap) (b:Nat) (N R:List Po.S) (hn:N.length≤1000000) (hnd:N.Nodup) (hR:Po.Rising R) (hmem:∀ t,t∈N↔t∈R) (cap:Addr) (hc:F.c cap (.map (some b))) (hb:F.o b (aV (Po.sM N))) :
  Qz Tryz.prog 34 [.fn 71 [] [.hp cap 0],.fn 36 [] []] [hpB F] fun r m=>∃ u:Value,r = .sl 1 u R.length∧m=[hpB F,⟨addrOf u,Po.savs R,.row u 48 5 R.length⟩]:=by
 have ca:=kf F b N hn cap hc hb
 refine aB Tryz.func34 rfl (by decide) ?_
 repeat' first|(intro K hK;(with_reducible refine gC ?_);first|(refine cN [0] ca ?_;rintro _ _ ⟨u,L,hp,rfl,rfl⟩;refine cR ?_)|(refine cN [1] (py u 48 L (by have:=hp.length_eq;omega)) ?_;rintro _ _ ⟨rfl,L2,hp2,hs2,rfl⟩;refine cR ?_))|(refine sxZ ?_;try clear hK K)|refine sxW ?_ ?_<;>intro _|(intro K hK _;conv=>whnf)
 all_goals
  have e:=Po.sorted_eq (hp2.trans hp) hnd hs2 hR hmem
  subst e
  exact ⟨u,by rw [hp2.length_eq],by rw [hp2.length_eq]⟩
namespace Tr
theorem srow_mono {F G:Heap} (h:F.le G) {v:Value} {l:List Po.S} (hv:Po.SRow F v l):Po.SRow G v l:=aI.mono h (fun _ _ h=>h) hv
def cs (c:C) (v:Value):List AV:=[.int .i64 c.s.port,.int .i64 c.s.p0,.int .i64 c.s.p1,.int .i64 c.s.p2,.int .i64 c.s.p3,.hs v c.out.length]
def R (F:Heap) (c:C) (us:List Value):Prop:=∃ A cap,Po.SRow F (.slice A c.out.length cap) c.out∧us=[.int .i64 c.s.port,.int .i64 c.s.p0,.int .i64 c.s.p1,.int .i64 c.s.p2,.int .i64 c.s.p3,.slice A c.out.length cap]
theorem R.mono {F G:Heap} (h:F.le G) {c:C} {us:List Value} (hc:R F c us):R G c us:=by
 obtain ⟨A,cap,h1,h2⟩:=hc
 exact ⟨A,cap,srow_mono h h1,h2⟩
abbrev Row (F:Heap) (v:Value) (l:List C):Prop:=aI F 6 (R F) v l
theorem Row.mono {F G:Heap} (h:F.le G) {v:Value} {l:List C} (hv:Row F v l):Row G v l:=aI.mono h (fun _ _ hp=>R.mono h hp) hv
structure Cell (F:Heap) (v:Value) (i:Nat) (x:C) (A:Option Addr) (cap:Nat):Prop where
 c0:F.c ((addrOf v).add (i*6)) (.int .i64 x.s.port)
 c1:F.c ((addrOf v).add (i*6+1)) (.int .i64 x.s.p0)
 c2:F.c ((addrOf v).add (i*6+2)) (.int .i64 x.s.p1)
 c3:F.c ((addrOf v).add (i*6+3)) (.int .i64 x.s.p2)
 c4:F.c ((addrOf v).add (i*6+4)) (.int .i64 x.s.p3)
 c5:F.c ((addrOf v).add (i*6+5)) (.slice A x.out.length cap)
theorem Row.get {F:Heap} {v:Value} {l:List C} (h:Row F v l) {i:Nat} {x:C} (hx:l[i]?=some x):∃ A cap,Po.SRow F (.slice A x.out.length cap) x.out∧Cell F v i x A cap:=by
 obtain ⟨us,h1,_,h2⟩:=h.at_ i x hx
 obtain ⟨A,cap,h3,rfl⟩:=h1
 simp only [CellsF,Nat.add_assoc,Nat.reduceAdd] at h2
 obtain ⟨c0,c1,c2,c3,c4,c5,_⟩:=h2
 exact ⟨A,cap,h3,c0,c1,c2,c3,c4,c5⟩
structure L where
 x:C
 v:Value
def psC (ps:List L):List AV:=ps.flatMap fun p=>cs p.x p.v
def psV (p:L):List Value:=denL (cs p.x p.v)
theorem psC_den:∀ ps,denL (psC ps)=ps.flatMap psV
 | []=>rfl
 | p::ps=>by
  have:=psC_den ps
  unfold psC at *
  rw [List.flatMap_cons,List.flatMap_cons,aS,this]
  rfl
theorem psC_len (ps:List L):(psC ps).length=ps.length*6:=by
 induction ps with
 | nil=>rfl
 | cons p ps ih =>
  unfold psC at *
  rw [List.flatMap_cons,List.length_append,ih,List.length_cons]
  show 6+_=_
  omega
theorem psC_append (a b:List L):psC (a++b)=psC a++psC b:=by unfold psC;rw [List.flatMap_append]
theorem ones_psC (l:List L):Go.Sx.ones (psC l)=true:=by
 induction l with
 | nil=>rfl
 | cons x l ih =>
  unfold psC at *
  rw [List.flatMap_cons]
  simpa [cs,Go.Sx.ones] using ih
theorem row_of {G:Heap} {u:Value} {ps:List L} (h:aI G 6 (fun p vs=>vs=psV p) u ps) (hall:∀ p∈ps,Po.SRow G p.v p.x.out):Row G u (ps.map (·.x)):=by
 refine ⟨by rw [List.length_map];exact h.ok,fun k x hx=>?_⟩
 rw [List.getElem?_map] at hx
 cases hp:ps[k]? with
 | none=>rw [hp] at hx;cases hx
 | some p =>
  rw [hp] at hx
  simp only [Option.map_some,Option.some.injEq] at hx
  subst hx
  obtain ⟨vs,h1,h2,h3⟩:=h.at_ k p hp
  have hr:=hall p (List.mem_of_getElem? hp)
  refine ⟨vs,?_,h2,h3⟩
  obtain ⟨A,cap,hv,hle,hz⟩:=hr.ok
  rw [h1]
  obtain ⟨x,w⟩:=p
  dsimp only at hv hr ⊢
  subst hv
  exact ⟨A,cap,hr,rfl⟩
theorem Row.reads {F:Heap} {v:Value} {l:List C} (h:Row F v l):∃ ps:List L,ps.map (·.x)=l∧(∀ p∈ps,Po.SRow F p.v p.x.out)∧(psC ps).length=l.length*6∧CellsF F (addrOf v) 0 (denL (psC ps)):=by
 have hg:∀ i:Nat,∃ w:Value,∀ x,l[i]?=some x→Po.SRow F w x.out∧CellsF F (addrOf v) (i*6) (psV ⟨x,w⟩):=fun i=>by
  cases hx:l[i]? with
  | none=>exact ⟨.slice none 0 0,fun x e=>by cases e⟩
  | some x =>
   obtain ⟨us,⟨A,cap,h3,rfl⟩,_,h2⟩:=h.at_ i x hx
   exact ⟨.slice A x.out.length cap,fun y e=>by cases e;exact ⟨h3,h2⟩⟩
 let w:=fun i=>Classical.choose (hg i)
 have hw:=fun i=>Classical.choose_spec (hg i)
 let ps:List L:=(List.range l.length).map fun i=>⟨l.getD i ⟨start,[]⟩,w i⟩
 have hlen:ps.length=l.length:=by simp [ps]
 have hat:∀ i (hi:i<l.length),ps[i]?=some ⟨l[i],w i⟩:=fun i hi=>by
  simp [ps,List.getElem?_map,List.getElem?_range hi,List.getD_eq_getElem?_getD,List.getElem?_eq_getElem hi]
 refine ⟨ps,?_,fun p hp=>?_,by rw [psC_len,hlen],?_⟩
 ·apply List.ext_getElem?
  intro i
  rw [List.getElem?_map]
  by_cases hi:i<l.length
  ·rw [hat i hi,List.getElem?_eq_getElem hi];rfl
  ·rw [List.getElem?_eq_none (by omega),List.getElem?_eq_none (by omega)];rfl
 ·obtain ⟨i,hi,e⟩:=List.mem_iff_getElem.1 hp
  rw [hlen] at hi
  have e2:=hat i hi
  rw [List.getElem?_eq_getElem (by omega),e] at e2
  injection e2 with e2
  subst e2
  exact (hw i l[i] (List.getElem?_eq_getElem hi)).1
 ·rw [psC_den]
  have hr:aI F 6 (fun p us=>us=psV p) v ps:=⟨by rw [hlen];exact h.ok,fun i p hp=>by
   have hi:i<l.length:=by rw [← hlen];exact (List.getElem?_eq_some_iff.1 hp).1
   rw [hat i hi] at hp
   injection hp with hp
   subst hp
   exact ⟨_,rfl,rfl,(hw i l[i] (List.getElem?_eq_getElem hi)).2⟩⟩
  exact hr.all.1
abbrev Lays (F:Heap) (l:List C) (r:AV) (m:List Blk):Prop:=∃ F' v,F.le F'∧Row F' v l∧r = .hs v l.length∧m=[hpB F']
theorem rows_know {f:FuncId} {args:List AV} {F:Heap} {t:TypeId} {m:List Blk} {l:List C} (h:Qz Tryz.prog f args m fun r m'=>∃ G v,∃ ps:List L,F.le G∧ps.map (·.x)=l∧(∀ p∈ps,Po.SRow G p.v p.x.out)∧r.den=aw v∧Qw m' [hpB G,⟨addrOf v,psC ps,.row v t 6 ps.length⟩]) :
  Qz Tryz.prog f args m fun r m'=>Lays F l r m':=by
 refine Go.Sx.Qz.know h fun r m' ⟨G,u,ps,hle,hmap,hall,hr,hm⟩ ⟨w,hw⟩=>?_
 have hok:=((hm w hw).1.row (List.mem_cons_of_mem _ (List.mem_cons_self ..))).1
 have hrow:=aM (F:=G) (sz:=6) (enc:=psV) hok (psC_den ps) (fun x _=>rfl)
 refine ⟨.hs u l.length,_,hr.symm,hm.trans (Qw.freeze (m:=[])),_,u,hle.trans addF.old,?_,rfl,rfl⟩
 rw [← hmap]
 exact row_of hrow fun p hp=>srow_mono addF.old (hall p hp)
abbrev Lay1 (F:Heap) (c:C) (r:AV) (m:List Blk):Prop:=∃ F' v,F.le F'∧Po.SRow F' v c.out∧r = .agg (cs c v)∧m=[hpB F']
theorem case_know {f:FuncId} {args:List AV} {F:Heap} {t:TypeId} {m:List Blk} {c:C} (h:Qz Tryz.prog f args m fun r m'=>∃ G v,F.le G∧r.den=(AV.agg (cs c v)).den∧Qw m' [hpB G,⟨addrOf v,Po.savs c.out,.row v t 5 c.out.length⟩]) :
  Qz Tryz.prog f args m fun r m'=>Lay1 F c r m':=by
 refine Go.Sx.Qz.know h fun r m' ⟨G,u,hle,hr,hm⟩ ⟨w,hw⟩=>?_
 have hok:=((hm w hw).1.row (List.mem_cons_of_mem _ (List.mem_cons_self ..))).1
 have hrow:=aM (F:=G) (sz:=5) (enc:=Po.S.vs) hok (Po.savs_den _) (fun x _=>rfl)
 exact ⟨.agg (cs c u),_,hr.symm,hm.trans (Qw.freeze (m:=[])),_,u,hle.trans addF.old,hrow,rfl,rfl⟩
end Tr
theorem nu (s:Po.S) (f v:Int) (hf:Tr.ok f):Qz Tryz.prog 107 [.agg [.int .i64 s.port,.int .i64 s.p0,.int .i64 s.p1,.int .i64 s.p2,.int .i64 s.p3,.raw (.slice none 0 0)],.int .i64 f,.int .i64 v] [] fun r _=>r = .agg [.int .i64 (Tr.withK f v s).port,.int .i64 (Tr.withK f v s).p0,.int .i64 (Tr.withK f v s).p1,.int .i64 (Tr.withK f v s).p2,.int .i64 (Tr.withK f v s).p3,.raw (.slice none 0 0)]:=by
 refine aB Tryz.func107 rfl (by decide) ?_
 obtain ⟨s0,s1,s2,s3,s4⟩:=s
 rcases Tr.ok5 hf with rfl | rfl | rfl | rfl | rfl
 all_goals
  simp only [Tr.withK]
  repeat' first|(refine sxZ ?_;try clear hK K)|refine sxW ?_ ?_<;>intro _|(intro K hK _;conv=>whnf)
  all_goals rfl
theorem jP (s:Po.S) (f v:Int) (w:Value) (n:Nat) (hf:Tr.ok f):Qz Tryz.prog 107 [.agg [.int .i64 s.port,.int .i64 s.p0,.int .i64 s.p1,.int .i64 s.p2,.int .i64 s.p3,.hs w n],.int .i64 f,.int .i64 v] [] fun r _=>r = .agg [.int .i64 (Tr.withK f v s).port,.int .i64 (Tr.withK f v s).p0,.int .i64 (Tr.withK f v s).p1,.int .i64 (Tr.withK f v s).p2,.int .i64 (Tr.withK f v s).p3,.hs w n]:=by
 refine aB Tryz.func107 rfl (by decide) ?_
 obtain ⟨s0,s1,s2,s3,s4⟩:=s
 rcases Tr.ok5 hf with rfl | rfl | rfl | rfl | rfl
 all_goals
  simp only [Tr.withK]
  repeat' first|(refine sxZ ?_;try clear hK K)|refine sxW ?_ ?_<;>intro _|(intro K hK _;conv=>whnf)
  all_goals rfl
theorem pV (n k:Int):Qz Tryz.prog 149 [.int .i64 n,.int .i64 k] [] fun r _=>r = .int .i64 (Tr.came n k):=by
 refine aB Tryz.func149 rfl (by decide) ?_
 unfold Tr.came
 by_cases h:n=k
 ·rw [if_pos h]
  repeat' first|(refine sxZ ?_;try clear hK K)|refine sxW ?_ ?_<;>intro _|(intro K hK _;conv=>whnf)
  all_goals first | (exfalso;omega) | rfl
 ·rw [if_neg h]
  repeat' first|(refine sxZ ?_;try clear hK K)|refine sxW ?_ ?_<;>intro _|(intro K hK _;conv=>whnf)
  all_goals first | (exfalso;omega) | rfl
theorem dK {f:FuncId} {args:List AV} {F:Heap} {t:TypeId} {m:List Blk} {l:List Po.S} (h:Qz Tryz.prog f args m fun r m'=>∃ v,r.den=aw v∧Qw m' [hpB F,⟨addrOf v,Po.savs l,.row v t 5 l.length⟩]) :
  Qz Tryz.prog f args m fun r m'=>∃ F' v,F.le F'∧Po.SRow F' v l∧r = .hs v l.length∧m'=[hpB F']:=by
 refine Go.Sx.Qz.know h fun r m' ⟨v,hr,hm⟩ ⟨w,hw⟩=>?_
 have hok:=((hm w hw).1.row (List.mem_cons_of_mem _ (List.mem_cons_self ..))).1
 have hrow:=aM (F:=F) (sz:=5) (enc:=Po.S.vs) hok (Po.savs_den _) (fun x _=>rfl)
 exact ⟨.hs v l.length,_,hr.symm,hm.trans (Qw.freeze (m:=[])),_,v,addF.old,hrow,rfl,rfl⟩
theorem k8 (F:Heap) (b c:Nat) (t:TypeId) (N R:List Po.S) (hn:N.length≤1000000) (hnd:N.Nodup) (hR:Po.Rising R) (hmem:∀ t,t∈N↔t∈R) :
  Qz Tryz.prog 34 [.fn 71 [] [.ptr 2 ⟨c,0,none⟩ 0],.fn 36 [] []] [hpB F,aa b (Po.sM N),⟨⟨c,0,none⟩,[.raw (.map (some b))],.var t⟩] fun r m=>∃ (G:Heap) (u:Value),F.le G∧r = .sl 3 u R.length∧m=[hpB G,hpB noHeap,hpB noHeap,⟨addrOf u,Po.savs R,.row u 48 5 R.length⟩]:=by
 have hc:(addF (jJ F b (aV (Po.sM N))) ⟨c,0,none⟩ (denL [AV.raw (.map (some b))])).c ⟨c,0,none⟩ (.map (some b)):=.inr ⟨0,by simp [Addr.add],by simp [denL,AV.den]⟩
 have hb:(addF (jJ F b (aV (Po.sM N))) ⟨c,0,none⟩ (denL [AV.raw (.map (some b))])).o b (aV (Po.sM N)):=.inr ⟨rfl,rfl⟩
 have h:=fp _ b N R hn hnd hR hmem ⟨c,0,none⟩ hc hb
 have h:=Qz.pre (args:=[.fn 71 [] [.ptr 2 ⟨c,0,none⟩ 0],.fn 36 [] []]) (m:=[hpB F,aa b (Po.sM N),⟨⟨c,0,none⟩,[.raw (.map (some b))],.var t⟩]) h rfl (Qw.freezeObj.trans Qw.freezeVar)
 have hle:F.le (addF (jJ F b (aV (Po.sM N))) ⟨c,0,none⟩ (denL [AV.raw (.map (some b))])):=jJ.old.trans addF.old
 generalize addF (jJ F b (aV (Po.sM N))) ⟨c,0,none⟩ (denL [AV.raw (.map (some b))])=G at *
 refine Qz.fits h fun r m ⟨u,h1,h2⟩=>⟨.sl 3 u R.length,[hpB G,hpB noHeap,hpB noHeap,⟨addrOf u,Po.savs R,.row u 48 5 R.length⟩],?_,?_,G,u,hle,rfl,rfl⟩
 ·rw [h1];rfl
 ·rw [h2]
  exact ((Qw.noHeap _).trans (Qw.noHeap _)).trans (Qw.pick [2,0,1,3] (by decide) rfl)
theorem qY (F:Heap) (x:Po.T) (pu u:Value) (sw:Int) (s:Po.S) (hs:Po.tot x≤4611686018427387904) (hf:Po.fits x=true) (hl:(Po.runs sw x s).length≤1000000) (hx:Po.At F x pu u) :
  Qz Tryz.prog 14 [.agg (Po.cs x pu u),.int .i64 sw,.int .i64 s.port,.agg [.int .i64 s.p0,.int .i64 s.p1,.int .i64 s.p2,.int .i64 s.p3]] [hpB F] fun r m=>∃ F' v,F.le F'∧Po.SRow F' v (Po.runs sw x s)∧r = .hs v (Po.runs sw x s).length∧m=[hpB F']:=by
 refine dK (t:=48) ?_
 have hok:=hx.l.ok
 have hpok:=hx.p.ok
 have cr:=fun b=>l8 _ F x pu u sw (Nat.le_refl _) hs hf hx s b [] List.nodup_nil
 simp only [Po.doneR] at cr
 have hR:=Po.runs_rising sw s _ x (Nat.le_refl _)
 have ck:=fun b=>oi F b
 generalize Po.runs sw x s=R at *
 have hlen:∀ N:List Po.S,N.Nodup→(∀ t,t∈N↔t∈([]:List Po.S)∨t∈R)→N.length≤1000000∧∀ t,t∈N↔t∈R:=fun N hn hm=>by
  have hm:∀ t,t∈N↔t∈R:=fun t=>(hm t).trans (by simp)
  refine ⟨Nat.le_trans ?_ hl,hm⟩
  have hp:N.Perm R:=by
   rw [List.perm_iff_count]
   intro t
   have hRn:R.Nodup:=List.Pairwise.imp (fun {a b} (h:Po.ahead a b) (e:a=b)=>Po.ahead_irrefl b (by rw [e] at h;exact h)) hR
   rw [hn.count,hRn.count]
   simp only [hm]
  rw [hp.length_eq]
  exact Nat.le_refl _
 have hsf:=fun b c N (hn:N.length≤1000000) hnd hm=>k8 F b c 88 N R hn hnd hR hm
 clear hl hR hx hf hs
 obtain ⟨k,⟨pk,pf,pv,pl⟩,f0,v0,l⟩:=x
 obtain ⟨a0,q0,q1,q2,q3⟩:=s
 simp only [Po.cs,Po.T.k,Po.T.p,Po.T.f,Po.T.v,Po.T.l,Pd.T.k,Pd.T.f,Pd.T.v,Pd.T.l,Po.S.av] at *
 refine aB Tryz.func14 rfl (by decide) ?_
 repeat' first|((try intro K hK);(with_reducible refine gC ?_);first|(refine cN [0,3] (cr _) ?_;rintro _ _ ⟨N,hnd,hmem,rfl,rfl⟩;refine cR ?_)|(refine cN [0] (ck _) ?_;rintro _ _ ⟨c,rfl,rfl⟩;refine ⟨rfl,.fn 71 [] [.ptr 4 ⟨c,0,none⟩ 0],rfl,?_⟩;conv=>whnf)|(refine cN [0,3,4] (hsf _ _ N (hlen N hnd hmem).1 hnd (hlen N hnd hmem).2) ?_;rintro _ _ ⟨G,u9,hle,rfl,rfl⟩;refine ⟨rfl,.sl 5 u9 R.length,rfl,?_⟩;conv=>whnf))|((try intro K hK);((with_reducible refine df ?_);refine NMap.make fun b1=>?_;conv=>whnf))|(refine sxZ ?_;try clear hK K)|refine sxW ?_ ?_<;>intro _|(intro K hK _;conv=>whnf)|(intro _;conv=>whnf)
 all_goals exact ⟨u9,rfl,(Qw.pick [0,5] (by decide) rfl).trans (Qw.less hle _)⟩
namespace Tp
end Tp
end Go.Proofs.YtmehinfgdcmmjaaGreatDoor
