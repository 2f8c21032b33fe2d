import Derived.Test.YtmehinfgdcmmjaaGreatJ1
import Derived.Test.YtmehinfgdcmmjaaGreatJ2
namespace Go.Proofs.YtmehinfgdcmmjaaGreat
open Go.Sx
set_option maxRecDepth 20000
set_option linter.unusedVariables false
namespace Po
theorem ins_len (s:S) (l:List S):(ins s l).length≤l.length+1:=by
 induction l with
 | nil=>simp [ins]
 | cons x l ih =>
  unfold ins
  split
  ·simp
  ·split
   ·simp
   ·simp only [List.length_cons];omega
theorem both_len:∀ (b a:List S),(both a b).length≤a.length+b.length
 | [],a=>by simp [both]
 | x::b,a=>by
  have h1:=both_len b (ins x a)
  have h2:=ins_len x a
  unfold both at *
  rw [List.foldl_cons,List.length_cons]
  omega
theorem fold_len (sw:Int) (y:T) (w:Nat) (hw:∀ s,(runs sw y s).length≤w):∀ (out a:List S),(out.foldl (fun next t=>both next (runs sw y t)) a).length≤a.length+out.length*w
 | [],a=>by simp
 | x::out,a=>by
  have h1:=fold_len sw y w hw out (both a (runs sw y x))
  have h2:=both_len (runs sw y x) a
  have h3:=hw x
  rw [List.foldl_cons,List.length_cons,Nat.succ_mul]
  omega
theorem wide_pos:∀ (n:Nat) (x:T),tot x≤n→fits x=true→1≤wide x
 | 0,x,hn,_=>absurd (tot_pos x) (by omega)
 | n+1,⟨k,p,f,v,l⟩,hn,h=>by
  obtain ⟨hsh,hfl⟩:=fits_iff.1 h
  have ih:∀ y∈l,1≤wide y:=fun y hy=>wide_pos n y (by have:=tot_lt (k:=k) (q:=p) (f:=f) (v:=v) hy;omega) (hfl y hy)
  have hS:∀ (l:List T) (m:Nat),1≤m→(∀ y∈l,1≤wide y)→1≤wideS m l:=fun l=>by
   induction l with
   | nil=>intro m hm _;exact hm
   | cons y l ihl =>
    intro m hm hy
    rw [wideS]
    refine ihl _ ?_ fun z hz=>hy z (by simp [hz])
    have:=Nat.mul_le_mul hm (hy y (by simp))
    omega
  have hU:∀ (l:List T) (m:Nat),(l≠[]∨1≤m)→(∀ y∈l,1≤wide y)→1≤wideU m l:=fun l=>by
   induction l with
   | nil=>intro m hm _;exact hm.resolve_left fun h=>h rfl
   | cons y l ihl =>
    intro m hm hy
    rw [wideU]
    refine ihl _ (.inr ?_) fun z hz=>hy z (by simp [hz])
    have:=hy y (by simp)
    omega
  rw [wide_mk]
  rcases hsh with ⟨rfl,_,_,hl⟩ | ⟨rfl,_,_,_,hl⟩ | ⟨rfl | rfl,_,_,hl1,hl2⟩ | ⟨rfl,_,_,hl⟩
  ·simp
  ·simp
  ·simp;exact hS l 1 (Nat.le_refl _) ih
  ·simp;exact hU l 0 (.inl fun e=>by rw [e] at hl1;simp at hl1) ih
  ·simp
   match l,hl with
   | [a,b],_ =>
    have h1:=ih a (by simp)
    have h2:=(wideI_ge [a,b] 0).2 a (by simp)
    omega
theorem wideS_ge {l:List T} (hw:∀ y∈l,1≤wide y):∀ m,1000≤m→1000≤wideS m l:=by
 induction l with
 | nil=>intro m hm;exact hm
 | cons y l ih =>
  intro m hm
  rw [wideS]
  refine ih (fun z hz=>hw z (by simp [hz])) _ ?_
  have:=Nat.mul_le_mul hm (hw y (by simp))
  omega
theorem wideU_ge {l:List T}:∀ m,1000≤m→1000≤wideU m l:=by
 induction l with
 | nil=>intro m hm;exact hm
 | cons y l ih =>
  intro m hm
  rw [wideU]
  exact ih _ (by omega)
theorem runsQ_len (sw:Int):∀ (l:List T) (out:List S) (m:Nat),(∀ y∈l,∀ s,wide y<1000→(runs sw y s).length≤wide y)→(∀ y∈l,1≤wide y)→1≤m→out.length≤m→wideS m l<1000→(runsQ sw l out).length≤wideS m l
 | [],out,m,_,_,_,ho,_=>by rw [runsQ,wideS];exact ho
 | y::l,out,m,hy,hp,hm,ho,hw=>by
  rw [wideS] at hw ⊢
  rw [runsQ]
  have hlt:m*wide y<1000:=Classical.byContradiction fun hn=>by
   have:=wideS_ge (l:=l) (fun z hz=>hp z (by simp [hz])) (min (m*wide y) 1000) (by omega)
   omega
  have hyl:wide y<1000:=Nat.lt_of_le_of_lt (Nat.le_mul_of_pos_left _ hm) hlt
  have hmin:min (m*wide y) 1000=m*wide y:=by omega
  rw [hmin] at hw ⊢
  refine runsQ_len sw l _ _ (fun z hz=>hy z (by simp [hz])) (fun z hz=>hp z (by simp [hz])) (Nat.mul_le_mul hm (hp y (by simp))) ?_ hw
  have:=fold_len sw y (wide y) (fun s=>hy y (by simp) s hyl) out []
  have h2:=Nat.mul_le_mul_right (wide y) ho
  simp only [List.length_nil,Nat.zero_add] at this
  omega
theorem runsU_len (sw:Int) (s:S):∀ (l:List T) (out:List S) (m:Nat),(∀ y∈l,wide y<1000→(runs sw y s).length≤wide y)→out.length≤m→wideU m l<1000→(runsU sw l s out).length≤wideU m l
 | [],out,m,_,ho,_=>by rw [runsU,wideU];exact ho
 | y::l,out,m,hy,ho,hw=>by
  rw [wideU] at hw ⊢
  rw [runsU]
  have hlt:m+wide y<1000:=Classical.byContradiction fun hn=>by
   have:=wideU_ge (l:=l) (min (m+wide y) 1000) (by omega)
   omega
  have hmin:min (m+wide y) 1000=m+wide y:=by omega
  rw [hmin] at hw ⊢
  refine runsU_len sw s l _ _ (fun z hz=>hy z (by simp [hz])) ?_ hw
  have h1:=both_len (runs sw y s) out
  have h2:=hy y (by simp) (by omega)
  omega
theorem runs_len (sw:Int):∀ (n:Nat) (x:T),tot x≤n→fits x=true→∀ s,wide x<1000→(runs sw x s).length≤wide x
 | 0,x,hn,_=>absurd (tot_pos x) (by omega)
 | n+1,⟨k,p,f,v,l⟩,hn,h=>fun s hw=>by
  obtain ⟨hsh,hfl⟩:=fits_iff.1 h
  have ih:∀ y∈l,∀ s,wide y<1000→(runs sw y s).length≤wide y:=fun y hy=>runs_len sw n y (by have:=tot_lt (k:=k) (q:=p) (f:=f) (v:=v) hy;omega) (hfl y hy)
  have hp:∀ y∈l,1≤wide y:=fun y hy=>wide_pos _ y (Nat.le_refl _) (hfl y hy)
  rw [wide_mk] at hw ⊢
  rw [runs_mk]
  rcases hsh with ⟨rfl,_,_,hl⟩ | ⟨rfl,_,_,_,hl⟩ | ⟨rfl | rfl,_,_,hl1,hl2⟩ | ⟨rfl,_,_,hl⟩
  ·simp
   split<;>simp
  ·simp
  ·simp at hw ⊢
   exact runsQ_len sw l [s] 1 ih hp (Nat.le_refl _) (by simp) hw
  ·simp at hw ⊢
   exact runsU_len sw s l [] 0 (fun y hy=>ih y hy s) (by simp) hw
  ·simp at hw ⊢
   match l,hl with
   | [a,b],_ =>
    have h1:=(wideI_ge [a,b] 0).2 a (by simp)
    have h2:=(wideI_ge [a,b] 0).2 b (by simp)
    split
    ·rw [runsA];exact Nat.le_trans (ih a (by simp) s (by omega)) h1
    ·rw [runsB,runsA];exact Nat.le_trans (ih b (by simp) s (by omega)) h2
theorem runs_64 (sw:Int) (x:T) (h:right x=true) (s:S):(runs sw x s).length≤64:=by
 have hf:=right_fits' h
 unfold right at h
 simp only [Bool.and_eq_true,decide_eq_true_eq] at h
 exact Nat.le_trans (runs_len sw _ x (Nat.le_refl _) hf s (by omega)) h.2.2.2
theorem cut_at (sw other:Int) (s:S) (p:Pd.T) (h:Pd.fits p=true):Pd.hits (s.at_ other) (Pd.cut sw p)=Pd.hits (s.at_ sw) p:=by
 have h1:=Pd.cut_hits (s.at_ sw) p h
 have h2:=Pd.hits_shut (s.at_ other) (Pd.cut sw p) (Pd.cut_vals sw p h)
 rw [← h2,← h1]
 rfl
theorem runsQ_map (sw other:Int) (l:List T) (h:∀ y∈l,∀ s,runs other (spec sw y) s=runs sw y s):∀ out,runsQ other (l.map (spec sw)) out=runsQ sw l out:=by
 induction l with
 | nil=>intro out;simp [runsQ]
 | cons y l ih =>
  intro out
  rw [List.map_cons,runsQ,runsQ,ih fun z hz=>h z (by simp [hz])]
  congr 1
  congr 1
  funext next t
  rw [h y (by simp)]
theorem runsU_map (sw other:Int) (s:S) (l:List T) (h:∀ y∈l,∀ s,runs other (spec sw y) s=runs sw y s):∀ out,runsU other (l.map (spec sw)) s out=runsU sw l s out:=by
 induction l with
 | nil=>intro out;simp [runsU]
 | cons y l ih =>
  intro out
  rw [List.map_cons,runsU,runsU,ih fun z hz=>h z (by simp [hz]),h y (by simp)]
theorem spec_runs (sw other:Int):∀ (n:Nat) (x:T),tot x≤n→fits x=true→∀ s,runs other (spec sw x) s=runs sw x s
 | 0,x,hn,_=>absurd (tot_pos x) (by omega)
 | n+1,⟨k,p,f,v,l⟩,hn,h=>fun s=>by
  obtain ⟨hsh,hfl⟩:=fits_iff.1 h
  have ih:∀ y∈l,∀ s,runs other (spec sw y) s=runs sw y s:=fun y hy=>spec_runs sw other n y (by have:=tot_lt (k:=k) (q:=p) (f:=f) (v:=v) hy;omega) (hfl y hy)
  rw [spec_mk]
  rcases hsh with ⟨rfl,hr,⟨rfl,rfl⟩,hl⟩ | ⟨rfl,rfl,hf1,hv1,hl⟩ | ⟨hk,rfl,⟨rfl,rfl⟩,hl1,hl2⟩ | ⟨rfl,hr,⟨rfl,rfl⟩,hl⟩
  ·rw [if_neg (by omega),if_pos (.inl rfl),runs_mk,runs_mk,cut_at sw other s p (right_fits hr)]
   simp
  ·rw [if_neg (by omega),if_neg (by omega),runs_mk,runs_mk]
   simp
  ·rw [if_neg (by omega),if_neg (by omega),runs_mk,runs_mk]
   rcases hk with rfl | rfl
   ·simp only [show ¬ (3:Int)=1 by decide,show ¬ (3:Int)=2 by decide,if_false,if_true]
    exact runsQ_map sw other l ih _
   ·simp only [show ¬ (4:Int)=1 by decide,show ¬ (4:Int)=2 by decide,show ¬ (4:Int)=3 by decide,if_false,if_true]
    exact runsU_map sw other s l ih _
  ·have hpf:=right_fits hr
   have hc:=cut_at sw other s p hpf
   have hk:=Pd.fits_k (Pd.cut_fits sw p hpf)
   match l,hl with
   | [a,b],_ =>
   have ha:=ih a (by simp) s
   have hb:=ih b (by simp) s
   have hR:runs sw (.mk 5 p 0 0 [a,b]) s=if Pd.hits (s.at_ sw) p=true then runs sw a s else runs sw b s:=by
    rw [runs_mk,runsA,runsB,runsA];simp
   rw [hR]
   by_cases h2:(Pd.cut sw p).k≤2
   ·rw [if_pos ⟨rfl,h2⟩]
    have hh:=Pd.hits_12 (s.at_ other) (y:=Pd.cut sw p) (by omega)
    rw [hc] at hh
    by_cases h1:(Pd.cut sw p).k=1
    ·rw [h1] at hh ⊢
     rw [hh]
     exact ha
    ·rw [decide_eq_false h1] at hh
     rw [show (Pd.cut sw p).k=2 by omega,hh]
     exact hb
   ·rw [if_neg (fun h=>h2 h.2),if_pos (.inr rfl),runs_mk,hc]
    simp only [show ¬ (5:Int)=1 by decide,show ¬ (5:Int)=2 by decide,show ¬ (5:Int)=3 by decide,show ¬ (5:Int)=4 by decide,if_false,if_true,List.map_cons,List.map_nil,runsA,runsB,ha,hb]
end Po
namespace Tr
open Po (S)
structure C where
 s:S
 out:List S
deriving DecidableEq
def gt (f:Int) (s:S):Int:=if f=4 then s.port else if f=0 then s.p0 else if f=1 then s.p1 else if f=2 then s.p2 else s.p3
def withK (f v:Int) (s:S):S:=if f=4 then { s with port:=v } else if f=0 then { s with p0:=v } else if f=1 then { s with p1:=v } else if f=2 then { s with p2:=v } else { s with p3:=v }
abbrev ok (f:Int):Prop:=0≤f∧f≤4
theorem gt_same (f v:Int) (s:S):gt f (withK f v s)=v:=by
 unfold gt withK
 by_cases h4:f=4
 ·simp [h4]
 by_cases h0:f=0
 ·simp [h0]
 by_cases h1:f=1
 ·simp [h1]
 by_cases h2:f=2
 ·simp [h2]
 ·simp [h4,h0,h1,h2]
theorem gt_other {f g:Int} (v:Int) (s:S) (hf:ok f) (hg:ok g) (h:g≠f):gt g (withK f v s)=gt g s:=by
 have h1:f=0∨f=1∨f=2∨f=3∨f=4:=by omega
 have h2:g=0∨g=1∨g=2∨g=3∨g=4:=by omega
 rcases h1 with rfl | rfl | rfl | rfl | rfl<;>rcases h2 with rfl | rfl | rfl | rfl | rfl<;>first | exact absurd rfl h | rfl
theorem S_ext {a b:S} (h:∀ f,ok f→gt f a=gt f b):a=b:=by
 have h0:=h 0 (by decide)
 have h1:=h 1 (by decide)
 have h2:=h 2 (by decide)
 have h3:=h 3 (by decide)
 have h4:=h 4 (by decide)
 obtain ⟨a0,a1,a2,a3,a4⟩:=a
 obtain ⟨b0,b1,b2,b3,b4⟩:=b
 simp only [gt] at h0 h1 h2 h3 h4
 simp at h0 h1 h2 h3 h4
 simp only [S.mk.injEq]
 exact ⟨h4,h0,h1,h2,h3⟩
def came (n k:Int):Int:=if n=k then -1 else n
def cameS (s t:S):S:=⟨t.port,came t.p0 s.p0,came t.p1 s.p1,came t.p2 s.p2,came t.p3 s.p3⟩
def outs (sw:Int) (y:Po.T) (s:S):List S:=Po.both [] ((Po.runs sw y s).map (cameS s))
def free (f:Int) (c:C):C:=⟨withK f (-1) c.s,c.out⟩
def alike (f:Int) (a b:List C):Bool:=decide (a.map (free f)=b.map (free f))
def some_ (f:Int) (other l:List C):List C:=if alike f l other=true then [] else l
def cases (sw:Int) (y:Po.T):List Int→S→List C
 | [],s=>[⟨s,outs sw y s⟩]
 | f::rest,s=>((Po.values f y).flatMap fun v=>some_ f (cases sw y rest s) (cases sw y rest (withK f v s)))++cases sw y rest s
def order:List Int:=[4,0,1,2,3]
def start:S:=⟨-1, -1, -1, -1, -1⟩
def all (sw:Int) (x:Po.T):List C:=cases sw (Po.spec sw x) order start
def cnt (y:Po.T):List Int→Nat
 | []=>1
 | f::rest=>((Po.values f y).length+1)*cnt y rest
theorem some_len (f:Int) (o l:List C):(some_ f o l).length≤l.length:=by
 unfold some_;split<;>simp
theorem flat_len {α β:Type} (g:α→List β) (n:Nat):∀ l:List α,(∀ x∈l,(g x).length≤n)→(l.flatMap g).length≤l.length*n
 | [],_=>by simp
 | x::l,h=>by
  have h1:=flat_len g n l fun y hy=>h y (by simp [hy])
  have h2:=h x (by simp)
  rw [List.flatMap_cons,List.length_append,List.length_cons,Nat.succ_mul]
  omega
theorem cases_len (sw:Int) (y:Po.T):∀ (fs:List Int) (s:S),(cases sw y fs s).length≤cnt y fs
 | [],s=>by simp [cases,cnt]
 | f::rest,s=>by
  rw [cases,cnt,List.length_append,Nat.succ_mul]
  have h1:=flat_len (fun v=>some_ f (cases sw y rest s) (cases sw y rest (withK f v s))) (cnt y rest) (Po.values f y) fun v _=>Nat.le_trans (some_len _ _ _) (cases_len sw y rest _)
  have h2:=cases_len sw y rest s
  omega
theorem cnt_pos (y:Po.T):∀ fs:List Int,1≤cnt y fs
 | []=>Nat.le_refl _
 | f::rest=>by
  have:=cnt_pos y rest
  rw [cnt]
  exact Nat.mul_pos (Nat.succ_pos _) this
theorem mem_cases {sw:Int} {y:Po.T} {f:Int} {rest:List Int} {s:S} {c:C} (h:c∈cases sw y (f::rest) s):(∃ v∈Po.values f y,c∈cases sw y rest (withK f v s))∨c∈cases sw y rest s:=by
 rw [cases,List.mem_append,List.mem_flatMap] at h
 rcases h with ⟨v,hv,h⟩ | h
 ·unfold some_ at h
  split at h
  ·cases h
  ·exact .inl ⟨v,hv,h⟩
 ·exact .inr h
theorem cases_keep (sw:Int) (y:Po.T) (g:Int) (hg:ok g):∀ (fs:List Int) (s:S),(∀ f∈fs,ok f)→g ∉ fs→∀ c∈cases sw y fs s,gt g c.s=gt g s
 | [],s,_,_,c,h=>by rw [cases,List.mem_singleton] at h;rw [h]
 | f::rest,s,hf,hn,c,h=>by
  have ih:=fun s=>cases_keep sw y g hg rest s (fun f h=>hf f (by simp [h])) (fun h=>hn (by simp [h]))
  rcases mem_cases h with ⟨v,_,h⟩ | h
  ·rw [ih _ c h,gt_other v s (hf f (by simp)) hg (fun e=>hn (by simp [e]))]
  ·exact ih _ c h
theorem outs_rising (sw:Int) (y:Po.T) (s:S):Po.Rising (outs sw y s):=Po.both_rising _ List.Pairwise.nil
theorem outs_len (sw:Int) (y:Po.T) (s:S):(outs sw y s).length≤(Po.runs sw y s).length:=by
 have:=Po.both_len ((Po.runs sw y s).map (cameS s)) []
 unfold outs
 simpa using this
theorem cases_out_len (sw:Int) (y:Po.T) (n:Nat) (hn:∀ s,(Po.runs sw y s).length≤n):∀ (fs:List Int) (s:S),∀ c∈cases sw y fs s,c.out.length≤n
 | [],s,c,h=>by rw [cases,List.mem_singleton] at h;rw [h];exact Nat.le_trans (outs_len sw y s) (hn s)
 | f::rest,s,c,h=>by
  rcases mem_cases h with ⟨v,_,h⟩ | h
  iterate 2
   ·exact cases_out_len sw y n hn rest _ c h
def hit (t:S) (c:C):Bool:=decide (∀ f∈order,gt f c.s = -1∨gt f c.s=gt f t)
theorem mem_order {f:Int}:f∈order↔ok f:=by
 simp only [order,List.mem_cons,List.not_mem_nil,or_false]
 omega
def kn (y:Po.T) (t:S):List Int→S→S
 | [],s=>s
 | f::rest,s=>kn y t rest (if gt f t∈Po.values f y then withK f (gt f t) s else s)
theorem find_map {α β:Type} (p:α→Bool) (g:α→β):∀ (a b:List α),a.map g=b.map g→(∀ x∈a,∀ z∈b,g x=g z→p x=p z)→∀ x,a.find? p=some x→∃ z,b.find? p=some z∧g x=g z
 | [],b,h,hp,x,hx=>by simp at hx
 | u::a,[],h,hp,x,hx=>by simp at h
 | u::a,v::b,h,hp,x,hx=>by
  simp only [List.map_cons,List.cons.injEq] at h
  have e:=hp u (by simp) v (by simp) h.1
  rw [List.find?_cons] at hx ⊢
  cases hu:p u with
  | true =>
   rw [hu] at hx
   rw [← e,hu]
   injection hx with hx
   subst hx
   exact ⟨v,rfl,h.1⟩
  | false =>
   rw [hu] at hx
   rw [← e,hu]
   exact find_map p g a b h.2 (fun x hx z hz=>hp x (by simp [hx]) z (by simp [hz])) x hx
theorem find_none {α:Type} {p:α→Bool} {a b:List α} (h:∀ x∈a,p x=false):(a++b).find? p=b.find? p:=by
 rw [List.find?_append,List.find?_eq_none.2 (fun x hx=>by rw [h x hx];simp)]
 rfl
theorem find_some {α:Type} {p:α→Bool} {a b:List α} {x:α} (h:a.find? p=some x):(a++b).find? p=some x:=by
 rw [List.find?_append,h];rfl
theorem cases_find (sw:Int) (y:Po.T) (t:S) (hy:∀ f,∀ v∈Po.values f y,0≤v):∀ (fs:List Int) (s:S),(∀ f∈fs,ok f)→fs.Nodup→(∀ f,ok f→gt f s = -1∨gt f s=gt f t)→(∀ f∈fs,gt f s = -1)→∃ c,(cases sw y fs s).find? (hit t)=some c∧c.out=outs sw y (kn y t fs s)
 | [],s,_,_,hs,_=>by
  refine ⟨⟨s,outs sw y s⟩,?_,rfl⟩
  rw [cases,List.find?_cons,show hit t ⟨s,outs sw y s⟩=true from decide_eq_true fun f hf=>hs f (mem_order.1 hf)]
 | f::rest,s,hf,hn,hs,h1=>by
  rw [List.nodup_cons] at hn
  have hfo:=hf f (by simp)
  have hfr:∀ g∈rest,ok g:=fun g h=>hf g (by simp [h])
  have hw:∀ v,∀ g∈rest,gt g (withK f v s) = -1:=fun v g hg=>by
   rw [gt_other v s hfo (hfr g hg) (fun e=>hn.1 (by rw [← e];exact hg))]
   exact h1 g (by simp [hg])
  have ih:=fun s=>cases_find sw y t hy rest s hfr hn.2
  have hk:=fun s=>cases_keep sw y f hfo rest s hfr hn.1
  have hno:∀ v∈Po.values f y,v≠gt f t→∀ c∈some_ f (cases sw y rest s) (cases sw y rest (withK f v s)),hit t c=false:=fun v hv hne c hc=>by
   unfold some_ at hc
   split at hc
   ·cases hc
   ·have h2:=hk _ c hc
    rw [gt_same] at h2
    refine decide_eq_false fun h=>?_
    have h3:=h f (mem_order.2 hfo)
    rw [h2] at h3
    have:=hy f v hv
    rcases h3 with h3 | h3
    ·omega
    ·exact hne h3
  obtain ⟨c0,hc0,ho0⟩:=ih s hs fun g hg=>h1 g (by simp [hg])
  rw [cases,kn]
  by_cases hin:gt f t∈Po.values f y
  ·rw [if_pos hin]
   obtain ⟨c1,hc1,ho1⟩:=ih (withK f (gt f t) s) (fun g hg=>by
    by_cases e:g=f
    ·subst e;exact .inr (gt_same ..)
    ·rw [gt_other _ s hfo hg e];exact hs g hg) (hw _)
   have hr:=Po.values_rising f y
   obtain ⟨pre,post,e⟩:=List.append_of_mem hin
   rw [e] at hr hno ⊢
   have hr2:=(List.pairwise_append.1 hr)
   rw [List.flatMap_append,List.flatMap_cons,List.append_assoc,find_none (fun c hc=>by
    obtain ⟨v,hv,hc⟩:=List.mem_flatMap.1 hc
    have:=hr2.2.2 v hv (gt f t) (by simp)
    exact hno v (by simp [hv]) (by omega) c hc)]
   by_cases ha:alike f (cases sw y rest (withK f (gt f t) s)) (cases sw y rest s)=true
   ·rw [some_,if_pos ha,List.nil_append,find_none (fun c hc=>by
     obtain ⟨v,hv,hc⟩:=List.mem_flatMap.1 hc
     have:=(List.pairwise_cons.1 hr2.2.1).1 v hv
     exact hno v (by simp [hv]) (by omega) c hc)]
    obtain ⟨z,hz,he⟩:=find_map (hit t) (free f) _ _ (of_decide_eq_true ha) (fun c hc d hd e=>by
     have e2:∀ g,ok g→g≠f→gt g c.s=gt g d.s:=fun g hg hne=>by
      rw [← gt_other (-1) c.s hfo hg hne,← gt_other (-1) d.s hfo hg hne]
      have:withK f (-1) c.s=withK f (-1) d.s:=congrArg C.s e
      rw [this]
     have e3:=hk _ c hc
     have e4:=hk _ d hd
     rw [gt_same] at e3
     rw [h1 f (by simp)] at e4
     unfold hit
     refine decide_eq_decide.2 ⟨fun h g hg=>?_,fun h g hg=>?_⟩
     ·by_cases e:g=f
      ·subst e;exact .inl e4
      ·rw [← e2 g (mem_order.1 hg) e];exact h g hg
     ·by_cases e:g=f
      ·subst e;exact .inr e3
      ·rw [e2 g (mem_order.1 hg) e];exact h g hg) c1 hc1
    refine ⟨z,hz,?_⟩
    have:(free f c1).out=(free f z).out:=by rw [he]
    exact this.symm.trans ho1
   ·rw [some_,if_neg ha,List.append_assoc]
    exact ⟨c1,find_some hc1,ho1⟩
  ·rw [if_neg hin]
   rw [find_none (fun c hc=>by
    obtain ⟨v,hv,hc⟩:=List.mem_flatMap.1 hc
    exact hno v hv (fun e=>hin (by rw [← e];exact hv)) c hc)]
   exact ⟨c0,hc0,ho0⟩
end Tr
namespace Po
theorem mem_seq1 (sw:Int) (y:T) (l:List T) (out:List S) (t:S):t∈runsQ sw (y::l) out↔t∈runsQ sw l (thenS sw y out):=by rw [runsQ];exact Iff.rfl
theorem mem_runsQ (sw:Int) (t:S):∀ (l:List T) (out:List S),t∈runsQ sw l out↔∃ s∈out,t∈runsQ sw l [s]
 | [],out=>by simp [runsQ]
 | y::l,out=>by
  have e1:∀ o,runsQ sw (y::l) o=runsQ sw l (thenS sw y o):=fun o=>by rw [runsQ];rfl
  rw [e1,mem_runsQ sw t l]
  constructor
  ·rintro ⟨u,hu,ht⟩
   obtain ⟨s,hs,hu⟩:=(mem_then sw y u out).1 hu
   exact ⟨s,hs,by rw [e1,mem_runsQ sw t l];exact ⟨u,(mem_then sw y u [s]).2 ⟨s,by simp,hu⟩,ht⟩⟩
  ·rintro ⟨s,hs,ht⟩
   rw [e1,mem_runsQ sw t l] at ht
   obtain ⟨u,hu,ht⟩:=ht
   obtain ⟨s',hs',hu⟩:=(mem_then sw y u [s]).1 hu
   rw [List.mem_singleton.1 hs'] at hu
   exact ⟨u,(mem_then sw y u out).2 ⟨s,hs,hu⟩,ht⟩
theorem mem_Q0 (sw:Int) (s t:S):t∈runsQ sw [] [s]↔t=s:=by simp [runsQ]
theorem mem_Q1 (sw:Int) (y:T) (l:List T) (s t:S):t∈runsQ sw (y::l) [s]↔∃ u∈runs sw y s,t∈runsQ sw l [u]:=by
 rw [mem_seq1,mem_runsQ]
 constructor
 ·rintro ⟨u,hu,ht⟩
  obtain ⟨s',hs',hu⟩:=(mem_then sw y u [s]).1 hu
  rw [List.mem_singleton.1 hs'] at hu
  exact ⟨u,hu,ht⟩
 ·rintro ⟨u,hu,ht⟩
  exact ⟨u,(mem_then sw y u [s]).2 ⟨s,by simp,hu⟩,ht⟩
theorem ptop_top {f:Int} (h:0≤f∧f<4):ptop f=Pd.top f:=by
 unfold ptop Pd.top
 rw [if_neg (by omega:¬ (f=4∨f=5))]
end Po
namespace Tr
open Po (S)
def sub (t u:S):S:=⟨if u.port = -1 then t.port else u.port,if u.p0 = -1 then t.p0 else u.p0,if u.p1 = -1 then t.p1 else u.p1,if u.p2 = -1 then t.p2 else u.p2,if u.p3 = -1 then t.p3 else u.p3⟩
theorem ok5 {f:Int} (h:ok f):f=0∨f=1∨f=2∨f=3∨f=4:=by omega
theorem gt_sub {f:Int} (hf:ok f) (t u:S):gt f (sub t u)=if gt f u = -1 then gt f t else gt f u:=by
 rcases ok5 hf with rfl | rfl | rfl | rfl | rfl<;>rfl
theorem gt_came {f:Int} (hf:ok f) (k u:S):gt f (cameS k u)=if f=4 then gt f u else came (gt f u) (gt f k):=by
 rcases ok5 hf with rfl | rfl | rfl | rfl | rfl<;>rfl
theorem get_at {f:Int} (hf:ok f) (sw:Int) (u:S):Pd.get f (u.at_ sw)=gt f u:=by
 rcases ok5 hf with rfl | rfl | rfl | rfl | rfl<;>rfl
theorem put_with {f v:Int} (hf:ok f) (hv:0≤v∧v≤Pd.top f) (u:S):Po.put f v u=withK f v u:=by
 unfold Po.put withK
 by_cases h4:f=4
 ·rw [if_pos h4,if_pos h4]
 ·rw [if_neg h4,if_neg h4]
  have e:=Po.ptop_top (f:=f) (by omega)
  unfold Po.withS
  rw [e,if_pos ⟨by omega,hv⟩]
theorem sub_with {f v:Int} (hf:ok f) (hv:v≠-1) (t u:S):withK f v (sub t u)=sub t (withK f v u):=S_ext fun g hg=>by
 by_cases e:g=f
 ·subst e
  rw [gt_same,gt_sub hg,gt_same,if_neg hv]
 ·rw [gt_other v _ hf hg e,gt_sub hg,gt_sub hg,gt_other v u hf hg e]
def Free (V:Int→Int→Prop) (t u:S):Prop:=∀ f,ok f→gt f u = -1→¬ V f (gt f t)
theorem hits_sub (sw:Int) (V:Int→Int→Prop) (t u:S) (hu:Free V t u) (p:Pd.T) (hp:Pd.fits p=true) (hV:∀ f v,ok f→v∈Pd.vals f p→V f v):Pd.hits ((sub t u).at_ sw) p=Pd.hits (u.at_ sw) p :=
 Pd.hits_alike _ _ p fun f hf v hv hne=>by
  by_cases h5:f=5
  ·subst h5;exact absurd rfl hne
  ·have hf':ok f:=by omega
   rw [get_at hf',get_at hf',gt_sub hf'] at hne ⊢
   have h0:=Pd.vals_top f p hp v hv
   by_cases e:gt f u = -1
   ·rw [if_pos e] at hne ⊢
    refine ⟨fun h=>hu f hf' e (by rw [h];exact hV f v hf' hv),by omega⟩
   ·rw [if_neg e] at hne
    exact absurd rfl hne
theorem pd_of {k:Int} {p:Pd.T} {a w:Int} {l:List Po.T} {V:Int→Int→Prop} (hV:∀ f v,ok f→v∈Po.vals f (.mk k p a w l)→V f v):(∀ f v,ok f→v∈Pd.vals f p→V f v)∧(∀ y∈l,∀ f v,ok f→v∈Po.vals f y→V f v):=by
 refine ⟨fun f v hf hv=>hV f v hf ?_,fun y hy f v hf hv=>hV f v hf ?_⟩
 ·rw [Po.vals_mk,List.mem_append,List.mem_append,Pd.values_mem]
  exact .inr (.inl hv)
 ·rw [Po.vals_mk,List.mem_append,List.mem_append,Po.mem_valsL]
  exact .inr (.inr ⟨y,hy,hv⟩)
theorem Q_keep (sw:Int) (V:Int→Int→Prop):∀ (l:List Po.T),(∀ y∈l,∀ u w,w∈Po.runs sw y u→∀ f,ok f→gt f w=gt f u∨V f (gt f w))→∀ u w,w∈Po.runsQ sw l [u]→∀ f,ok f→gt f w=gt f u∨V f (gt f w)
 | [],_,u,w,hw,f,hf=>by rw [(Po.mem_Q0 sw u w).1 hw];exact .inl rfl
 | y::l,h,u,w,hw,f,hf=>by
  obtain ⟨u',hu,hw⟩:=(Po.mem_Q1 sw y l u w).1 hw
  rcases Q_keep sw V l (fun z hz=>h z (by simp [hz])) u' w hw f hf with e | e
  ·rw [e];exact h y (by simp) u u' hu f hf
  ·exact .inr e
theorem runs_keep (sw:Int) (V:Int→Int→Prop):∀ (n:Nat) (x:Po.T),Po.tot x≤n→Po.fits x=true→(∀ f v,ok f→v∈Po.vals f x→V f v)→∀ u w,w∈Po.runs sw x u→∀ f,ok f→gt f w=gt f u∨V f (gt f w)
 | 0,x,hn,_,_=>absurd (Po.tot_pos x) (by omega)
 | n+1,⟨k,p,a,v,l⟩,hn,h,hV=>fun u w hw f hf=>by
  obtain ⟨hsh,hfl⟩:=Po.fits_iff.1 h
  have hV2:=(pd_of hV).2
  have ih:∀ y∈l,∀ u w,w∈Po.runs sw y u→∀ f,ok f→gt f w=gt f u∨V f (gt f w):=fun y hy=>runs_keep sw V n y (by have:=Po.tot_lt (k:=k) (q:=p) (f:=a) (v:=v) hy;omega) (hfl y hy) (hV2 y hy)
  rcases hsh with ⟨rfl,_,_,hl⟩ | ⟨rfl,rfl,ha,hv,hl⟩ | ⟨rfl | rfl,_,_,hl1,hl2⟩ | ⟨rfl,_,_,hl⟩
  ·rw [Po.runs_mk,if_pos rfl] at hw
   split at hw
   ·rw [List.mem_singleton.1 hw];exact .inl rfl
   ·cases hw
  ·rw [Po.runs_mk,if_neg (by decide),if_pos rfl,List.mem_singleton] at hw
   rw [hw,put_with ⟨ha.1,ha.2⟩ hv]
   by_cases e:f=a
   ·subst e
    rw [gt_same]
    refine .inr (hV f v hf ?_)
    rw [Po.vals_mk,if_pos ⟨rfl,rfl⟩]
    simp
   ·rw [gt_other v u ⟨ha.1,ha.2⟩ hf e];exact .inl rfl
  ·rw [Po.runs_mk,if_neg (by decide),if_neg (by decide),if_pos rfl] at hw
   exact Q_keep sw V l ih u w hw f hf
  ·rw [Po.runs_mk,if_neg (by decide),if_neg (by decide),if_neg (by decide),if_pos rfl,Po.mem_runsU] at hw
   rcases hw with hw | ⟨y,hy,hw⟩
   ·cases hw
   ·exact ih y hy u w hw f hf
  ·match l,hl with
   | [b,c],_ =>
    have hR:Po.runs sw (.mk 5 p a v [b,c]) u=if Pd.hits (u.at_ sw) p=true then Po.runs sw b u else Po.runs sw c u:=by
     rw [Po.runs_mk,Po.runsA,Po.runsB,Po.runsA];simp
    rw [hR] at hw
    split at hw
    ·exact ih b (by simp) u w hw f hf
    ·exact ih c (by simp) u w hw f hf
theorem free_keep {sw:Int} {V:Int→Int→Prop} (h0:∀ f v,ok f→V f v→0≤v) {t u w:S} (hu:Free V t u) (h:∀ f,ok f→gt f w=gt f u∨V f (gt f w)):Free V t w:=fun f hf e=>by
 rcases h f hf with h | h
 ·exact hu f hf (h ▸ e)
 ·have:=h0 f _ hf h;omega
theorem Q_sub (sw:Int) (V:Int→Int→Prop) (t:S) (h0:∀ f v,ok f→V f v→0≤v):∀ (l:List Po.T),(∀ y∈l,∀ u w,w∈Po.runs sw y u→∀ f,ok f→gt f w=gt f u∨V f (gt f w))→(∀ y∈l,∀ u,Free V t u→∀ w,w∈Po.runs sw y (sub t u)↔∃ z∈Po.runs sw y u,w=sub t z)→∀ u,Free V t u→∀ w,w∈Po.runsQ sw l [sub t u]↔∃ z∈Po.runsQ sw l [u],w=sub t z
 | [],_,_,u,_,w=>by
  rw [Po.mem_Q0]
  constructor
  ·intro e;exact ⟨u,(Po.mem_Q0 sw u u).2 rfl,e⟩
  ·rintro ⟨z,hz,e⟩;rw [e,(Po.mem_Q0 sw u z).1 hz]
 | y::l,hk,h,u,hu,w=>by
  have ih:=Q_sub sw V t h0 l (fun z hz=>hk z (by simp [hz])) (fun z hz=>h z (by simp [hz]))
  have hk1:=hk y (by simp) u
  rw [Po.mem_Q1]
  constructor
  ·rintro ⟨a,ha,hw⟩
   obtain ⟨z,hz,rfl⟩:=(h y (by simp) u hu a).1 ha
   obtain ⟨z2,hz2,e⟩:=(ih z (free_keep (sw:=sw) h0 hu (hk1 z hz)) w).1 hw
   exact ⟨z2,(Po.mem_Q1 sw y l u z2).2 ⟨z,hz,hz2⟩,e⟩
  ·rintro ⟨z2,hz2,e⟩
   obtain ⟨z,hz,hz2⟩:=(Po.mem_Q1 sw y l u z2).1 hz2
   exact ⟨sub t z,(h y (by simp) u hu _).2 ⟨z,hz,rfl⟩,(ih z (free_keep (sw:=sw) h0 hu (hk1 z hz)) w).2 ⟨z2,hz2,e⟩⟩
theorem runs_sub (sw:Int) (V:Int→Int→Prop) (t:S) (h0:∀ f v,ok f→V f v→0≤v):∀ (n:Nat) (x:Po.T),Po.tot x≤n→Po.fits x=true→(∀ f v,ok f→v∈Po.vals f x→V f v)→∀ u,Free V t u→∀ w,w∈Po.runs sw x (sub t u)↔∃ z∈Po.runs sw x u,w=sub t z
 | 0,x,hn,_,_=>absurd (Po.tot_pos x) (by omega)
 | n+1,⟨k,p,a,v,l⟩,hn,h,hV=>fun u hu w=>by
  obtain ⟨hsh,hfl⟩:=Po.fits_iff.1 h
  obtain ⟨hV1,hV2⟩:=pd_of hV
  have ih:∀ y∈l,∀ u,Free V t u→∀ w,w∈Po.runs sw y (sub t u)↔∃ z∈Po.runs sw y u,w=sub t z:=fun y hy=>runs_sub sw V t h0 n y (by have:=Po.tot_lt (k:=k) (q:=p) (f:=a) (v:=v) hy;omega) (hfl y hy) (hV2 y hy)
  have ik:∀ y∈l,∀ u w,w∈Po.runs sw y u→∀ f,ok f→gt f w=gt f u∨V f (gt f w):=fun y hy=>runs_keep sw V _ y (Nat.le_refl _) (hfl y hy) (hV2 y hy)
  rcases hsh with ⟨rfl,hp,_,hl⟩ | ⟨rfl,rfl,ha,hv,hl⟩ | ⟨rfl | rfl,_,_,hl1,hl2⟩ | ⟨rfl,hp,_,hl⟩
  ·rw [Po.runs_mk,Po.runs_mk,if_pos rfl,if_pos rfl,hits_sub sw V t u hu p (Po.right_fits hp) hV1]
   split
   ·simp
   ·simp
  ·rw [Po.runs_mk,Po.runs_mk,if_neg (by decide),if_pos rfl,if_neg (by decide),if_pos rfl,put_with ⟨ha.1,ha.2⟩ hv,put_with ⟨ha.1,ha.2⟩ hv,sub_with ⟨ha.1,ha.2⟩ (by omega)]
   simp
  ·rw [Po.runs_mk,Po.runs_mk]
   simp only [show ¬ (3:Int)=1 by decide,show ¬ (3:Int)=2 by decide,if_false,if_true]
   exact Q_sub sw V t h0 l ik ih u hu w
  ·rw [Po.runs_mk,Po.runs_mk]
   simp only [show ¬ (4:Int)=1 by decide,show ¬ (4:Int)=2 by decide,show ¬ (4:Int)=3 by decide,if_false,if_true]
   rw [Po.mem_runsU]
   constructor
   ·rintro (hw | ⟨y,hy,hw⟩)
    ·cases hw
    ·obtain ⟨z,hz,e⟩:=(ih y hy u hu w).1 hw
     exact ⟨z,(Po.mem_runsU sw u z l []).2 (.inr ⟨y,hy,hz⟩),e⟩
   ·rintro ⟨z,hz,e⟩
    rcases (Po.mem_runsU sw u z l []).1 hz with hz | ⟨y,hy,hz⟩
    ·cases hz
    ·exact .inr ⟨y,hy,(ih y hy u hu w).2 ⟨z,hz,e⟩⟩
  ·match l,hl with
   | [b,c],_ =>
    have hR:∀ s,Po.runs sw (.mk 5 p a v [b,c]) s=if Pd.hits (s.at_ sw) p=true then Po.runs sw b s else Po.runs sw c s:=fun s=>by
     rw [Po.runs_mk,Po.runsA,Po.runsB,Po.runsA];simp
    rw [hR,hR,hits_sub sw V t u hu p (Po.right_fits hp) hV1]
    split
    ·exact ih b (by simp) u hu w
    ·exact ih c (by simp) u hu w
theorem gt_kn (y:Po.T) (t:S) {f:Int} (hf:ok f):∀ (fs:List Int) (s:S),(∀ g∈fs,ok g)→gt f (kn y t fs s)=if f∈fs∧gt f t∈Po.values f y then gt f t else gt f s
 | [],s,_=>by rw [kn,if_neg (by simp)]
 | g::rest,s,h=>by
  have ih:=gt_kn y t hf rest (if gt g t∈Po.values g y then withK g (gt g t) s else s) fun g hg=>h g (by simp [hg])
  rw [kn,ih]
  have hother:f≠g→gt f (if gt g t∈Po.values g y then withK g (gt g t) s else s)=gt f s:=fun e=>by
   by_cases hg:gt g t∈Po.values g y
   ·rw [if_pos hg,gt_other _ s (h g (by simp)) hf e]
   ·rw [if_neg hg]
  by_cases hv:gt f t∈Po.values f y
  ·by_cases hr:f∈rest
   ·rw [if_pos (show f∈rest∧_ from ⟨hr,hv⟩),if_pos (show f∈g::rest∧gt f t∈Po.values f y from ⟨by simp [hr],hv⟩)]
   ·rw [if_neg (show ¬ (f∈rest∧gt f t∈Po.values f y) from fun h=>hr h.1)]
    by_cases e:f=g
    ·subst e
     rw [if_pos hv,if_pos (show f∈f::rest∧gt f t∈Po.values f y from ⟨by simp,hv⟩),gt_same]
    ·rw [if_neg (show ¬ (f∈g::rest∧gt f t∈Po.values f y) from fun h=>by rcases List.mem_cons.1 h.1 with h | h;exact e h;exact hr h),hother e]
  ·rw [if_neg (show ¬ (f∈rest∧gt f t∈Po.values f y) from fun h=>hv h.2),if_neg (show ¬ (f∈g::rest∧gt f t∈Po.values f y) from fun h=>hv h.2)]
   by_cases e:f=g
   ·subst e;rw [if_neg hv]
   ·exact hother e
theorem found_runs (sw:Int) (x:Po.T) (hx:Po.fits x=true) (t:S) (ht:∀ f,ok f→0≤gt f t) :
  ∃ c,(all sw x).find? (hit t)=some c∧(c.out.map (sub t)).Nodup∧∀ w,w∈c.out.map (sub t)↔w∈Po.runs sw x t:=by
 have hyf:=Po.spec_fits sw x hx
 have hrun:=fun s=>Po.spec_runs sw sw _ x (Nat.le_refl _) hx s
 unfold all
 generalize Po.spec sw x=y at *
 have hv0:∀ f,∀ v∈Po.values f y,0≤v:=fun f v hv=>(Po.vals_top f y hyf v ((Po.values_mem f y v).1 hv)).1
 have hord:∀ f∈order,ok f:=fun f h=>mem_order.1 h
 have hst:∀ f,gt f start = -1:=fun f=>by
  unfold gt start
  repeat' split
  all_goals rfl
 obtain ⟨c,hc,ho⟩:=cases_find sw y t hv0 order start hord (by decide) (fun f _=>.inl (hst f)) fun f _=>hst f
 refine ⟨c,hc,?_⟩
 have hk:∀ f,ok f→gt f (kn y t order start)=if gt f t∈Po.values f y then gt f t else -1:=fun f hf=>by
  rw [gt_kn y t hf order start hord,hst]
  by_cases e:gt f t∈Po.values f y
  ·rw [if_pos ⟨mem_order.2 hf,e⟩,if_pos e]
  ·rw [if_neg (fun h=>e h.2),if_neg e]
 generalize kn y t order start=k at *
 have hfree:Free (fun f v=>v∈Po.values f y) t k:=fun f hf e h=>by
  rw [hk f hf,if_pos h] at e
  have:=ht f hf
  omega
 have hkeep:=runs_keep sw (fun f v=>v∈Po.values f y) _ y (Nat.le_refl _) hyf (fun f v _ h=>(Po.values_mem f y v).2 h) k
 have hsub:=runs_sub sw (fun f v=>v∈Po.values f y) t (fun f v _=>hv0 f v) _ y (Nat.le_refl _) hyf (fun f v _ h=>(Po.values_mem f y v).2 h) k hfree
 have ekt:sub t k=t:=S_ext fun f hf=>by
  rw [gt_sub hf,hk f hf]
  by_cases e:gt f t∈Po.values f y
  ·rw [if_pos e];split<;>rfl
  ·rw [if_neg e];rfl
 rw [ekt] at hsub
 have hcame:∀ u∈Po.runs sw y k,sub t (cameS k u)=sub t u:=fun u hu=>S_ext fun f hf=>by
  rw [gt_sub hf,gt_sub hf,gt_came hf]
  by_cases h4:f=4
  ·rw [if_pos h4]
  ·rw [if_neg h4]
   unfold came
   by_cases e:gt f u=gt f k
   ·rw [if_pos e,if_pos rfl,e,hk f hf]
    by_cases e2:gt f t∈Po.values f y
    ·rw [if_pos e2];split<;>rfl
    ·rw [if_neg e2];rfl
   ·rw [if_neg e]
 have hmo:∀ o,o∈c.out↔∃ u∈Po.runs sw y k,cameS k u=o:=fun o=>by
  rw [ho,outs,Po.mem_both,List.mem_map]
  simp
 refine ⟨?_,fun w=>?_⟩
 ·rw [List.Nodup,List.pairwise_map]
  have hris:Po.Rising c.out:=by rw [ho];exact outs_rising sw y k
  refine List.Pairwise.imp_of_mem (fun {a b} ha hb hab e=>?_) hris
  obtain ⟨u1,hu1,rfl⟩:=(hmo a).1 ha
  obtain ⟨u2,hu2,rfl⟩:=(hmo b).1 hb
  rw [hcame u1 hu1,hcame u2 hu2] at e
  have:u1=u2:=S_ext fun f hf=>by
   have e1:gt f (sub t u1)=gt f (sub t u2):=by rw [e]
   rw [gt_sub hf,gt_sub hf] at e1
   have k1:=hkeep u1 hu1 f hf
   have k2:=hkeep u2 hu2 f hf
   have hkf:=hk f hf
   have h0:=ht f hf
   have hneg:∀ v,v∈Po.values f y→v≠-1:=fun v hv h=>by have:=hv0 f v hv;omega
   by_cases e2:gt f t∈Po.values f y
   ·rw [if_pos e2] at hkf
    have n1:gt f u1≠-1:=by
     rcases k1 with h | h
     ·rw [h,hkf];omega
     ·exact hneg _ h
    have n2:gt f u2≠-1:=by
     rcases k2 with h | h
     ·rw [h,hkf];omega
     ·exact hneg _ h
    rw [if_neg n1,if_neg n2] at e1
    exact e1
   ·rw [if_neg e2] at hkf
    by_cases n1:gt f u1 = -1
    ·by_cases n2:gt f u2 = -1
     ·rw [n1,n2]
     ·rw [if_pos n1,if_neg n2] at e1
      rcases k2 with h | h
      ·exact absurd (h.trans hkf) n2
      ·exact absurd (e1 ▸ h) e2
    ·rw [if_neg n1] at e1
     rcases k1 with h | h
     ·exact absurd (h.trans hkf) n1
     ·by_cases n2:gt f u2 = -1
      ·rw [if_pos n2] at e1
       exact absurd (e1 ▸ h) e2
      ·rw [if_neg n2] at e1
       exact e1
  rw [this] at hab
  exact Po.ahead_irrefl _ hab
 ·rw [List.mem_map,← hrun t,hsub w]
  constructor
  ·rintro ⟨o,ho,rfl⟩
   obtain ⟨u,hu,rfl⟩:=(hmo o).1 ho
   exact ⟨u,hu,hcame u hu⟩
  ·rintro ⟨u,hu,rfl⟩
   exact ⟨cameS k u,(hmo _).2 ⟨u,hu,rfl⟩,hcame u hu⟩
theorem came_nodup (sw:Int) (y:Po.T) (hf:Po.fits y=true) (s:S):((Po.runs sw y s).map (cameS s)).Nodup:=by
 rw [List.Nodup,List.pairwise_map]
 have hkeep:=runs_keep sw (fun f v=>0≤v) _ y (Nat.le_refl _) hf (fun f v _ h=>(Po.vals_top f y hf v h).1) s
 refine List.Pairwise.imp_of_mem (fun {a b} ha hb hab e=>?_) (Po.runs_rising sw s _ y (Nat.le_refl _))
 have:a=b:=S_ext fun f hfo=>by
  have e1:gt f (cameS s a)=gt f (cameS s b):=by rw [e]
  rw [gt_came hfo,gt_came hfo] at e1
  have k1:=hkeep a ha f hfo
  have k2:=hkeep b hb f hfo
  split at e1
  ·exact e1
  ·unfold came at e1
   split at e1<;>split at e1<;>omega
 rw [this] at hab
 exact Po.ahead_irrefl _ hab
theorem outs_mem (sw:Int) (y:Po.T) (s t:S):t∈(Po.runs sw y s).map (cameS s)↔t∈outs sw y s:=by
 rw [outs,Po.mem_both];simp
end Tr
end Go.Proofs.YtmehinfgdcmmjaaGreat
