import Derived.Test.YtaolcaggdddkpaaGreatJ3
import Derived.Test.YtaolcaggdddkpaaGreatJ2
namespace Go.Proofs.YtaolcaggdddkpaaGreat
open Go.Sx
set_option maxRecDepth 20000
set_option linter.unusedVariables false
namespace Tr
open Po (S)
structure C where
 s:S
 out:List S
deriving DecidableEq
def gt (f:Int) (s:S):Int:=if f=4 then s.port else if f=0 then s.p0 else if f=1 then s.p1 else if f=2 then s.p2 else s.p3
def withK (f v:Int) (s:S):S:=if f=4 then { s with port:=v } else if f=0 then { s with p0:=v } else if f=1 then { s with p1:=v } else if f=2 then { s with p2:=v } else { s with p3:=v }
abbrev ok (f:Int):Prop:=0≤f∧f≤4
theorem gt_same (f v:Int) (s:S):gt f (withK f v s)=v:=by
 unfold gt withK
 by_cases h4:f=4
 ·simp [h4]
 by_cases h0:f=0
 ·simp [h0]
 by_cases h1:f=1
 ·simp [h1]
 by_cases h2:f=2
 ·simp [h2]
 ·simp [h4,h0,h1,h2]
theorem gt_other {f g:Int} (v:Int) (s:S) (hf:ok f) (hg:ok g) (h:g≠f):gt g (withK f v s)=gt g s:=by
 have h1:f=0∨f=1∨f=2∨f=3∨f=4:=by omega
 have h2:g=0∨g=1∨g=2∨g=3∨g=4:=by omega
 rcases h1 with rfl | rfl | rfl | rfl | rfl<;>rcases h2 with rfl | rfl | rfl | rfl | rfl<;>first | exact absurd rfl h | rfl
theorem S_ext {a b:S} (h:∀ f,ok f→gt f a=gt f b):a=b:=by
 have h0:=h 0 (by decide)
 have h1:=h 1 (by decide)
 have h2:=h 2 (by decide)
 have h3:=h 3 (by decide)
 have h4:=h 4 (by decide)
 obtain ⟨a0,a1,a2,a3,a4⟩:=a
 obtain ⟨b0,b1,b2,b3,b4⟩:=b
 simp only [gt] at h0 h1 h2 h3 h4
 simp at h0 h1 h2 h3 h4
 simp only [S.mk.injEq]
 exact ⟨h4,h0,h1,h2,h3⟩
def came (n k:Int):Int:=if n=k then -1 else n
def cameS (s t:S):S:=⟨t.port,came t.p0 s.p0,came t.p1 s.p1,came t.p2 s.p2,came t.p3 s.p3⟩
def outs (sw:Int) (y:Po.T) (s:S):List S:=Po.both [] ((Po.runs sw y s).map (cameS s))
def free (f:Int) (c:C):C:=⟨withK f (-1) c.s,c.out⟩
def alike (f:Int) (a b:List C):Bool:=decide (a.map (free f)=b.map (free f))
def some_ (f:Int) (other l:List C):List C:=if alike f l other=true then [] else l
def cases (sw:Int) (y:Po.T):List Int→S→List C
 | [],s=>[⟨s,outs sw y s⟩]
 | f::rest,s=>((Po.values f y).flatMap fun v=>some_ f (cases sw y rest s) (cases sw y rest (withK f v s)))++cases sw y rest s
def order:List Int:=[4,0,1,2,3]
def start:S:=⟨-1, -1, -1, -1, -1⟩
def all (sw:Int) (x:Po.T):List C:=cases sw (Po.spec sw x) order start
def cnt (y:Po.T):List Int→Nat
 | []=>1
 | f::rest=>((Po.values f y).length+1)*cnt y rest
theorem some_len (f:Int) (o l:List C):(some_ f o l).length≤l.length:=by
 unfold some_;split<;>simp
theorem flat_len {α β:Type} (g:α→List β) (n:Nat):∀ l:List α,(∀ x∈l,(g x).length≤n)→(l.flatMap g).length≤l.length*n
 | [],_=>by simp
 | x::l,h=>by
  have h1:=flat_len g n l fun y hy=>h y (by simp [hy])
  have h2:=h x (by simp)
  rw [List.flatMap_cons,List.length_append,List.length_cons,Nat.succ_mul]
  omega
theorem cases_len (sw:Int) (y:Po.T):∀ (fs:List Int) (s:S),(cases sw y fs s).length≤cnt y fs
 | [],s=>by simp [cases,cnt]
 | f::rest,s=>by
  rw [cases,cnt,List.length_append,Nat.succ_mul]
  have h1:=flat_len (fun v=>some_ f (cases sw y rest s) (cases sw y rest (withK f v s))) (cnt y rest) (Po.values f y) fun v _=>Nat.le_trans (some_len _ _ _) (cases_len sw y rest _)
  have h2:=cases_len sw y rest s
  omega
theorem cnt_pos (y:Po.T):∀ fs:List Int,1≤cnt y fs
 | []=>Nat.le_refl _
 | f::rest=>by
  have:=cnt_pos y rest
  rw [cnt]
  exact Nat.mul_pos (Nat.succ_pos _) this
theorem mem_cases {sw:Int} {y:Po.T} {f:Int} {rest:List Int} {s:S} {c:C} (h:c∈cases sw y (f::rest) s):(∃ v∈Po.values f y,c∈cases sw y rest (withK f v s))∨c∈cases sw y rest s:=by
 rw [cases,List.mem_append,List.mem_flatMap] at h
 rcases h with ⟨v,hv,h⟩ | h
 ·unfold some_ at h
  split at h
  ·cases h
  ·exact .inl ⟨v,hv,h⟩
 ·exact .inr h
theorem outs_rising (sw:Int) (y:Po.T) (s:S):Po.Rising (outs sw y s):=Po.both_rising _ List.Pairwise.nil
theorem outs_len (sw:Int) (y:Po.T) (s:S):(outs sw y s).length≤(Po.runs sw y s).length:=by
 have:=Po.both_len ((Po.runs sw y s).map (cameS s)) []
 unfold outs
 simpa using this
theorem cases_out_len (sw:Int) (y:Po.T) (n:Nat) (hn:∀ s,(Po.runs sw y s).length≤n):∀ (fs:List Int) (s:S),∀ c∈cases sw y fs s,c.out.length≤n
 | [],s,c,h=>by rw [cases,List.mem_singleton] at h;rw [h];exact Nat.le_trans (outs_len sw y s) (hn s)
 | f::rest,s,c,h=>by
  rcases mem_cases h with ⟨v,_,h⟩ | h
  ·exact cases_out_len sw y n hn rest _ c h
  ·exact cases_out_len sw y n hn rest _ c h
def hit (t:S) (c:C):Bool:=decide (∀ f∈order,gt f c.s = -1∨gt f c.s=gt f t)
theorem mem_order {f:Int}:f∈order↔ok f:=by
 simp only [order,List.mem_cons,List.not_mem_nil,or_false]
 omega
end Tr
namespace Po
theorem mem_seq1 (sw:Int) (y:T) (l:List T) (out:List S) (t:S):t∈runsQ sw (y::l) out↔t∈runsQ sw l (thenS sw y out):=by rw [runsQ];exact Iff.rfl
theorem mem_runsQ (sw:Int) (t:S):∀ (l:List T) (out:List S),t∈runsQ sw l out↔∃ s∈out,t∈runsQ sw l [s]
 | [],out=>by simp [runsQ]
 | y::l,out=>by
  have e1:∀ o,runsQ sw (y::l) o=runsQ sw l (thenS sw y o):=fun o=>by rw [runsQ];rfl
  rw [e1,mem_runsQ sw t l]
  constructor
  ·rintro ⟨u,hu,ht⟩
   obtain ⟨s,hs,hu⟩:=(mem_then sw y u out).1 hu
   exact ⟨s,hs,by rw [e1,mem_runsQ sw t l];exact ⟨u,(mem_then sw y u [s]).2 ⟨s,by simp,hu⟩,ht⟩⟩
  ·rintro ⟨s,hs,ht⟩
   rw [e1,mem_runsQ sw t l] at ht
   obtain ⟨u,hu,ht⟩:=ht
   obtain ⟨s',hs',hu⟩:=(mem_then sw y u [s]).1 hu
   rw [List.mem_singleton.1 hs'] at hu
   exact ⟨u,(mem_then sw y u out).2 ⟨s,hs,hu⟩,ht⟩
theorem mem_Q0 (sw:Int) (s t:S):t∈runsQ sw [] [s]↔t=s:=by simp [runsQ]
theorem mem_Q1 (sw:Int) (y:T) (l:List T) (s t:S):t∈runsQ sw (y::l) [s]↔∃ u∈runs sw y s,t∈runsQ sw l [u]:=by
 rw [mem_seq1,mem_runsQ]
 constructor
 ·rintro ⟨u,hu,ht⟩
  obtain ⟨s',hs',hu⟩:=(mem_then sw y u [s]).1 hu
  rw [List.mem_singleton.1 hs'] at hu
  exact ⟨u,hu,ht⟩
 ·rintro ⟨u,hu,ht⟩
  exact ⟨u,(mem_then sw y u [s]).2 ⟨s,by simp,hu⟩,ht⟩
theorem ptop_top {f:Int} (h:0≤f∧f<4):ptop f=Pd.top f:=by
 unfold ptop Pd.top
 rw [if_neg (by omega:¬ (f=4∨f=5))]
end Po
namespace Tr
open Po (S)
theorem ok5 {f:Int} (h:ok f):f=0∨f=1∨f=2∨f=3∨f=4:=by omega
theorem gt_came {f:Int} (hf:ok f) (k u:S):gt f (cameS k u)=if f=4 then gt f u else came (gt f u) (gt f k):=by
 rcases ok5 hf with rfl | rfl | rfl | rfl | rfl<;>rfl
theorem put_with {f v:Int} (hf:ok f) (hv:0≤v∧v≤Pd.top f) (u:S):Po.put f v u=withK f v u:=by
 unfold Po.put withK
 by_cases h4:f=4
 ·rw [if_pos h4,if_pos h4]
 ·rw [if_neg h4,if_neg h4]
  have e:=Po.ptop_top (f:=f) (by omega)
  unfold Po.withS
  rw [e,if_pos ⟨by omega,hv⟩]
theorem pd_of {k:Int} {p:Pd.T} {a w:Int} {l:List Po.T} {V:Int→Int→Prop} (hV:∀ f v,ok f→v∈Po.vals f (.mk k p a w l)→V f v):(∀ f v,ok f→v∈Pd.vals f p→V f v)∧(∀ y∈l,∀ f v,ok f→v∈Po.vals f y→V f v):=by
 refine ⟨fun f v hf hv=>hV f v hf ?_,fun y hy f v hf hv=>hV f v hf ?_⟩
 ·rw [Po.vals_mk,List.mem_append,List.mem_append,Pd.values_mem]
  exact .inr (.inl hv)
 ·rw [Po.vals_mk,List.mem_append,List.mem_append,Po.mem_valsL]
  exact .inr (.inr ⟨y,hy,hv⟩)
theorem Q_keep (sw:Int) (V:Int→Int→Prop):∀ (l:List Po.T),(∀ y∈l,∀ u w,w∈Po.runs sw y u→∀ f,ok f→gt f w=gt f u∨V f (gt f w))→∀ u w,w∈Po.runsQ sw l [u]→∀ f,ok f→gt f w=gt f u∨V f (gt f w)
 | [],_,u,w,hw,f,hf=>by rw [(Po.mem_Q0 sw u w).1 hw];exact .inl rfl
 | y::l,h,u,w,hw,f,hf=>by
  obtain ⟨u',hu,hw⟩:=(Po.mem_Q1 sw y l u w).1 hw
  rcases Q_keep sw V l (fun z hz=>h z (by simp [hz])) u' w hw f hf with e | e
  ·rw [e];exact h y (by simp) u u' hu f hf
  ·exact .inr e
theorem runs_keep (sw:Int) (V:Int→Int→Prop):∀ (n:Nat) (x:Po.T),Po.tot x≤n→Po.fits x=true→(∀ f v,ok f→v∈Po.vals f x→V f v)→∀ u w,w∈Po.runs sw x u→∀ f,ok f→gt f w=gt f u∨V f (gt f w)
 | 0,x,hn,_,_=>absurd (Po.tot_pos x) (by omega)
 | n+1,⟨k,p,a,v,l⟩,hn,h,hV=>fun u w hw f hf=>by
  obtain ⟨hsh,hfl⟩:=Po.fits_iff.1 h
  have hV2:=(pd_of hV).2
  have ih:∀ y∈l,∀ u w,w∈Po.runs sw y u→∀ f,ok f→gt f w=gt f u∨V f (gt f w):=fun y hy=>runs_keep sw V n y (by have:=Po.tot_lt (k:=k) (q:=p) (f:=a) (v:=v) hy;omega) (hfl y hy) (hV2 y hy)
  rcases hsh with ⟨rfl,_,_,hl⟩ | ⟨rfl,rfl,ha,hv,hl⟩ | ⟨rfl | rfl,_,_,hl1,hl2⟩ | ⟨rfl,_,_,hl⟩
  ·rw [Po.runs_mk,if_pos rfl] at hw
   split at hw
   ·rw [List.mem_singleton.1 hw];exact .inl rfl
   ·cases hw
  ·rw [Po.runs_mk,if_neg (by decide),if_pos rfl,List.mem_singleton] at hw
   rw [hw,put_with ⟨ha.1,ha.2⟩ hv]
   by_cases e:f=a
   ·subst e
    rw [gt_same]
    refine .inr (hV f v hf ?_)
    rw [Po.vals_mk,if_pos ⟨rfl,rfl⟩]
    simp
   ·rw [gt_other v u ⟨ha.1,ha.2⟩ hf e];exact .inl rfl
  ·rw [Po.runs_mk,if_neg (by decide),if_neg (by decide),if_pos rfl] at hw
   exact Q_keep sw V l ih u w hw f hf
  ·rw [Po.runs_mk,if_neg (by decide),if_neg (by decide),if_neg (by decide),if_pos rfl,Po.mem_runsU] at hw
   rcases hw with hw | ⟨y,hy,hw⟩
   ·cases hw
   ·exact ih y hy u w hw f hf
  ·match l,hl with
   | [b,c],_ =>
    have hR:Po.runs sw (.mk 5 p a v [b,c]) u=if Pd.hits (u.at_ sw) p=true then Po.runs sw b u else Po.runs sw c u:=by
     rw [Po.runs_mk,Po.runsA,Po.runsB,Po.runsA];simp
    rw [hR] at hw
    split at hw
    ·exact ih b (by simp) u w hw f hf
    ·exact ih c (by simp) u w hw f hf
theorem came_nodup (sw:Int) (y:Po.T) (hf:Po.fits y=true) (s:S):((Po.runs sw y s).map (cameS s)).Nodup:=by
 rw [List.Nodup,List.pairwise_map]
 have hkeep:=runs_keep sw (fun f v=>0≤v) _ y (Nat.le_refl _) hf (fun f v _ h=>(Po.vals_top f y hf v h).1) s
 refine List.Pairwise.imp_of_mem (fun {a b} ha hb hab e=>?_) (Po.runs_rising sw s _ y (Nat.le_refl _))
 have:a=b:=S_ext fun f hfo=>by
  have e1:gt f (cameS s a)=gt f (cameS s b):=by rw [e]
  rw [gt_came hfo,gt_came hfo] at e1
  have k1:=hkeep a ha f hfo
  have k2:=hkeep b hb f hfo
  split at e1
  ·exact e1
  ·unfold came at e1
   split at e1<;>split at e1<;>omega
 rw [this] at hab
 exact Po.ahead_irrefl _ hab
theorem outs_mem (sw:Int) (y:Po.T) (s t:S):t∈(Po.runs sw y s).map (cameS s)↔t∈outs sw y s:=by
 rw [outs,Po.mem_both];simp
end Tr
end Go.Proofs.YtaolcaggdddkpaaGreat
