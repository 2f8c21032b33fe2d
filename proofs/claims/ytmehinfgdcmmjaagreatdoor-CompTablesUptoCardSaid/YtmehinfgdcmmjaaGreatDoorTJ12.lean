/- A part of the proof. -/
import Derived.Test.YtmehinfgdcmmjaaGreatDoorTJ3
import Derived.Test.YtmehinfgdcmmjaaGreatDoorTJ4
import Derived.Test.YtmehinfgdcmmjaaGreatDoorTJ8
import Derived.Test.YtmehinfgdcmmjaaGreatDoorTJ11
import Derived.Test.YtmehinfgdcmmjaaGreatDoorTJ13
namespace Go.Proofs.YtmehinfgdcmmjaaGreatDoor
open Go.Sx
set_option maxRecDepth 20000
set_option linter.unusedSimpArgs false
set_option linter.unusedVariables false
set_option maxHeartbeats 4000000
namespace Po
def sM (L:List S):List (Value × Value):=L.map fun t=>(t.key,.agg #[])
def add (L:List S) (s:S):List S:=if s∈L then L else L++[s]
def okS (v:Value):Prop:=∃ l:List Int,l.length=5∧v=gL l
theorem S.key_ok (s:S):okS s.key:=⟨[s.port,s.p0,s.p1,s.p2,s.p3],rfl,rfl⟩
theorem sM_ok {L:List S}:∀ q∈sM L,okS q.1:=fun q hq=>by
 obtain ⟨x,_,rfl⟩:=List.mem_map.1 hq
 exact x.key_ok
theorem sM_no {L:List S} {s:S} (h:s ∉ L):∀ q∈sM L,q.1≠s.key:=fun q hq e=>by
 obtain ⟨y,hy,rfl⟩:=List.mem_map.1 hq
 exact h (S.key_inj e ▸ hy)
theorem sM_at {L:List S} {s:S} (h:s∈L):∃ i,bM (sM L) s.key (some (i,.agg #[]))∧(sM L).set i (s.key,.agg #[])=sM L:=by
 induction L with
 | nil=>cases h
 | cons x L ih =>
  by_cases hx:x=s
  ·subst hx
   exact ⟨0,⟨rfl,fun j q hj _=>absurd hj (Nat.not_lt_zero _)⟩,rfl⟩
  ·obtain ⟨i,⟨h1,h2⟩,h3⟩:=ih ((List.mem_cons.1 h).resolve_left fun e=>hx e.symm)
   refine ⟨i+1,⟨by simpa [sM] using h1,fun j q hj hq=>?_⟩,by simp only [sM,List.map_cons,List.set_cons_succ];congr 1⟩
   cases j with
   | zero =>
    simp only [sM,List.map_cons,List.getElem?_cons_zero,Option.some.injEq] at hq
    subst hq
    exact fun e=>hx (S.key_inj e)
   | succ j=>exact h2 j q (by omega) (by simpa [sM] using hq)
theorem add_nodup {L:List S} (h:L.Nodup) (s:S):(add L s).Nodup:=by
 unfold add
 split
 ·exact h
 ·rename_i hn
  rw [List.nodup_append]
  refine ⟨h,by simp,fun a ha b hb e=>?_⟩
  rw [List.mem_singleton.1 hb] at e
  exact hn (e ▸ ha)
theorem mem_add {L:List S} {s t:S}:t∈add L s↔t∈L∨t=s:=by
 unfold add
 split
 ·rename_i h
  exact ⟨.inl,fun e=>e.elim id fun e=>e ▸ h⟩
 ·simp
end Po
theorem qa:ei Tryz.prog 48 Po.okS:=ei.ints (by kernel_rfl) (by kernel_rfl) (by kernel_rfl)
section
variable {t:TypeId} {m:List Blk} {K:AV→List Blk→Prop} {b j:Nat} {L:List Po.S}
theorem eV {s:Po.S} {k v:AV} (hu:Tryz.prog.underlying t=some (.map 48 94)) (hj:m[j]?=some (aa b (Po.sM L))) (hk:k.den=s.key) (hv:v.den = .agg #[]) (hK:setBlkK m j (aa b (Po.sM (Po.add L s))) (K (.raw undef))) :
  NMap Tryz.prog (do Instr.mapUpdate t (AV.raw (Value.map (some b))).den k.den v.den;pure undef) m K:=by
 rw [hk,hv,show (AV.raw (Value.map (some b))).den = .map (some b) by rw [AV.den]]
 by_cases hs:s∈L
 ·obtain ⟨i,h1,h2⟩:=Po.sM_at hs
  refine NMap.upd_old hu qa hj Po.sM_ok s.key_ok h1 ?_
  rw [h2]
  rw [show Po.add L s=L from if_pos hs] at hK
  exact hK
 ·refine NMap.upd_new hu qa hj Po.sM_ok s.key_ok (Po.sM_no hs) ?_
  rw [show Po.add L s=L++[s] from if_neg hs] at hK
  unfold Po.sM at hK ⊢
  rw [List.map_append] at hK
  exact hK
end
def Po.doneR (F:Heap) (b:Nat) (L:List Po.S) (R:Po.S→Prop) (r:AV) (m:List Blk):Prop:=∃ L':List Po.S,L'.Nodup∧(∀ t,t∈L'↔t∈L∨R t)∧r = .tup []∧m=[hpB F,aa b (Po.sM L')]
theorem p9 (F:Heap) (p:Pd.T) (pu u:Value) (sw:Int) (hs:Pd.size p≤4611686018427387904) (hx:Po.At F (.mk 1 p 0 0 []) pu u) (s:Po.S) (b:Nat) (L:List Po.S) (hL:L.Nodup) :
  Qz Tryz.prog 33 [.raw (.map (some b)),.agg (Po.cs (.mk 1 p 0 0 []) pu u),.int .i64 sw,.agg s.av] [hpB F,aa b (Po.sM L)] fun r m=>Po.doneR F b L (fun t=>t∈Po.runs sw (.mk 1 p 0 0 []) s) r m:=by
 refine Qz.fits (K:=fun r m=>∃ L':List Po.S,L'.Nodup∧(∀ t,t∈L'↔t∈L∨t∈Po.runs sw (.mk 1 p 0 0 []) s)∧r = .tup []∧Qw m [hpB F,aa b (Po.sM L')]) ?_ fun r m' ⟨L',h1,h2,h3,h4⟩=>⟨r,_,rfl,h4,L',h1,h2,h3,rfl⟩
 have hok:=hx.l.ok
 have hpok:=hx.p.ok
 have ch:=ku F (s.at_ sw) p pu hs hx.p
 have hr:=Po.runs_mk sw 1 p 0 0 [] s
 rw [if_pos rfl] at hr
 have hu:Tryz.prog.underlying 88=some (.map 48 94):=by kernel_rfl
 have hadd:=Po.add_nodup hL s
 have hmem:=fun t=>Po.mem_add (L:=L) (s:=s) (t:=t)
 rw [hr]
 clear hr hx
 rw [aY]
 generalize Pd.hits (s.at_ sw) p=hb at *
 obtain ⟨pk,pf,pv,pl⟩:=p
 have hkey:(AV.agg s.av).den=s.key:=rfl
 obtain ⟨a0,a,b',c,d⟩:=s
 simp only [pd_cs,Pd.T.k,Pd.T.f,Pd.T.v,Pd.T.l,Po.S.av,Po.S.at_,Pd.At.pk] at *
 refine aB Tryz.func33 rfl (by decide) ?_
 cases hb with
 | false =>
  repeat' first|(intro K hK;(with_reducible refine gC ?_);refine cS [0] ch ?_)|(refine sxZ ?_;try clear hK K)|refine sxW ?_ ?_<;>intro _|(intro K hK _;conv=>whnf)
  all_goals exact ⟨L,hL,fun t=>by simp,rfl,Qw.pre 2 rfl⟩
 | true =>
  repeat' first|((try intro K hK);(with_reducible refine gC ?_);refine cS [0] ch ?_)|((try intro K hK);((with_reducible refine df ?_);refine eV (j:=1) hu rfl hkey rfl ?_;conv=>whnf))|(refine sxZ ?_;try clear hK K)|refine sxW ?_ ?_<;>intro _|(intro K hK _;conv=>whnf)|(intro _;conv=>whnf)
  all_goals exact ⟨_,hadd,fun t=>by rw [hmem];simp,rfl,Qw.pre 2 rfl⟩
namespace Po
theorem sM_len (L:List S):(sM L).length=L.length:=by unfold sM;rw [List.length_map]
theorem sM_get {L:List S} {i:Nat} {t:S} (h:L[i]?=some t):(sM L)[i]?=some (t.key,.agg #[]):=by unfold sM;rw [List.getElem?_map,h];rfl
def left (n:Nat) (seen:Array Nat):Nat:=((List.range n).filter fun i=>!seen.contains i).length
theorem left_push {n i:Nat} {seen:Array Nat} (h:i<n) (hs:seen.contains i=false):left n (seen.push i)<left n seen:=by
 unfold left
 have e:∀ j,(seen.push i).contains j=(seen.contains j||decide (j=i)):=fun j=>by
  rw [Bool.eq_iff_iff]
  simp [Array.contains_iff_mem,Array.mem_push]
 have hsub:((List.range n).filter fun j=>!(seen.push i).contains j)=((List.range n).filter fun j=>!seen.contains j).filter fun j=>!decide (j=i):=by
  rw [List.filter_filter]
  apply List.filter_congr
  intro j _
  rw [e]
  cases seen.contains j<;>simp
 rw [hsub]
 have hmem:i∈(List.range n).filter fun j=>!seen.contains j:=List.mem_filter.2 ⟨List.mem_range.2 h,by rw [hs];rfl⟩
 generalize (List.range n).filter (fun j=>!seen.contains j)=l at *
 clear hsub e
 induction l with
 | nil=>cases hmem
 | cons a l ih =>
  rw [List.filter_cons]
  by_cases ha:a=i
  ·subst ha
   simp only [decide_true,Bool.not_true,Bool.false_eq_true,if_false]
   have:=List.length_filter_le (fun j=>!decide (j=a)) l
   rw [List.length_cons]
   omega
  ·rw [if_pos (by simp [ha])]
   have:=ih ((List.mem_cons.1 hmem).resolve_left fun e=>ha e.symm)
   simp only [List.length_cons]
   omega
def come (N:List S) (seen:Array Nat) (t:S):Prop:=∃ i∈seen,N[i]?=some t
theorem come_push {N:List S} {seen:Array Nat} {i:Nat} {s t:S} (h:N[i]?=some s):come N (seen.push i) t↔come N seen t∨t=s:=by
 unfold come
 constructor
 ·rintro ⟨j,hj,ht⟩
  rcases Array.mem_push.1 hj with hj | rfl
  ·exact .inl ⟨j,hj,ht⟩
  ·rw [h] at ht;injection ht with ht;exact .inr ht.symm
 ·rintro (⟨j,hj,ht⟩ | rfl)
  ·exact ⟨j,Array.mem_push.2 (.inl hj),ht⟩
  ·exact ⟨i,Array.mem_push.2 (.inr rfl),h⟩
theorem come_all {N:List S} {seen:Array Nat} (h:∀ i,i<N.length→seen.contains i=true) {t:S}:come N seen t↔t∈N:=by
 unfold come
 constructor
 ·rintro ⟨i,_,ht⟩;exact List.mem_of_getElem? ht
 ·intro ht
  obtain ⟨i,hi,rfl⟩:=List.getElem_of_mem ht
  exact ⟨i,Array.contains_iff_mem.1 (h i hi),List.getElem?_eq_getElem hi⟩
theorem come_none {N:List S} {t:S}:¬ come N #[] t:=fun ⟨i,hi,_⟩=>by simp at hi
end Po
section
variable {t:TypeId} {m:List Blk} {K:AV→List Blk→Prop} {b c j:Nat} {N:List Po.S} {seen:Array Nat}
theorem mD (c:Nat):(AV.raw (Value.pointer (some ⟨c,0,none⟩))).den = .pointer (some ⟨c,0,none⟩):=by rw [AV.den]
theorem eJ (hu:Tryz.prog.underlying t=some (.map 48 94)) (hb:bN m b (Po.sM N)) (hK:∀ c,appK m (itB c b N.length #[]) (K (.raw (.pointer (some ⟨c,0,none⟩))))) :
  NMap Tryz.prog (Instr.range t (AV.raw (Value.map (some b))).den) m K:=by
 rw [show (AV.raw (Value.map (some b))).den = .map (some b) by rw [AV.den]]
 refine NMap.range hu hb fun c=>?_
 rw [Po.sM_len]
 exact hK c
theorem ep (hj:m[j]?=some (itB c b N.length seen)) (hb:bN m b (Po.sM N)) (h0:(∀ i,i<N.length→seen.contains i=true)→K (.tup [.bool false]) m)
  (h1:∀ (i:Nat) (t:Po.S),N[i]?=some t→seen.contains i=false→setBlkK m j (itB c b N.length (seen.push i)) (K (.tup [.bool true,.agg t.av,.agg []]))) :
  NMap Tryz.prog (Instr.next (AV.raw (Value.pointer (some ⟨c,0,none⟩))).den false 0) m K:=by
 rw [mD]
 have hj':m[j]?=some (itB c b (Po.sM N).length seen):=by rw [Po.sM_len];exact hj
 refine NMap.next hj' hb (fun h=>h0 fun i hi=>h i (by rw [Po.sM_len];exact hi)) fun i k v hi hs=>?_
 have hlt:i<N.length:=by have:=(List.getElem?_eq_some_iff.1 hi).1;rw [Po.sM_len] at this;exact this
 have hN:N[i]?=some N[i]:=List.getElem?_eq_getElem hlt
 rw [Po.sM_get hN] at hi
 injection hi with hi
 injection hi with hk hv
 subst hk hv
 refine ⟨.agg N[i].av,.agg [],rfl,rfl,?_⟩
 rw [Po.sM_len]
 exact h1 i _ hN hs
theorem fq {i:Nat} {s:Po.S} (hj:m[j]?=some (itB c b N.length (seen.push i))) (hb:bN m b (Po.sM N)) (hi:N[i]?=some s) (hK:K (.tup [.agg s.av,.agg []]) m) :
  NMap Tryz.prog (Instr.entry (AV.raw (Value.pointer (some ⟨c,0,none⟩))).den) m K:=by
 rw [mD]
 have hj':m[j]?=some (itB c b (Po.sM N).length (seen.push i)):=by rw [Po.sM_len];exact hj
 exact NMap.now hj' hb (Po.sM_get hi) (x:=.agg s.av) (y:=.agg []) rfl rfl hK
end
theorem pQ (b b1:Nat) (L N:List Po.S) (hL:L.Nodup) :
  Qz Tryz.prog 68 [.raw (.map (some b)),.raw (.map (some b1))] [aa b (Po.sM L),aa b1 (Po.sM N)] fun r m=>∃ L':List Po.S,L'.Nodup∧(∀ t,t∈L'↔t∈L∨t∈N)∧r = .tup []∧m=[aa b (Po.sM L'),aa b1 (Po.sM N)]:=by
 refine Qz.fits (K:=fun r m=>∃ L':List Po.S,L'.Nodup∧(∀ t,t∈L'↔t∈L∨t∈N)∧r = .tup []∧Qw m [aa b (Po.sM L'),aa b1 (Po.sM N)]) ?_ fun r m' ⟨L',h1,h2,h3,h4⟩=>⟨r,_,rfl,h4,L',h1,h2,h3,rfl⟩
 have hu:Tryz.prog.underlying 88=some (.map 48 94):=by kernel_rfl
 refine aB Tryz.func68 rfl (by decide) ?_
 repeat' first|((try intro K hK);((with_reducible refine df ?_);refine eJ (N:=N) hu (bN.own (j:=1) rfl) fun c=>?_;conv=>whnf))|(refine sxZ ?_;try clear hK K)|refine sxW ?_ ?_<;>intro _|(intro K hK _;conv=>whnf)|(intro _;conv=>whnf)
 refine aE (α:=Array Nat × List Po.S) (fun (seen,L')=>L'.Nodup∧∀ t,t∈L'↔t∈L∨Po.come N seen t) (fun (seen,L')=>[.k,.k,.k,.k,.d,.d,.k,.k,.d,.d,.d,.d,.d,.d,.d,.d]) (fun (seen,L')=>[.set (aa b (Po.sM L')),.k,.set (itB c b1 N.length seen)]) (fun (seen,L')=>Po.left N.length seen) (#[],L) ⟨hL,fun t=>⟨.inl,fun h=>h.elim id fun h=>absurd h Po.come_none⟩⟩ ?_ (Qw.eq rfl) ?_
 ·exact aD
 (intro ⟨seen,L'⟩ ⟨hn,hm⟩;intro K hK;(conv=>whnf);refine hK _ _ ?_;clear hK K)
 dsimp only
 repeat' first|((try intro K hK);((with_reducible refine df ?_);refine ep (N:=N) (j:=2) rfl (bN.own (j:=1) rfl) ?_ ?_<;>first | (intro i9 t9 hi9 hs9;conv=>whnf) | (intro hall9;conv=>whnf)))|((try intro K hK);((with_reducible refine df ?_);refine fq (N:=N) (j:=2) rfl (bN.own (j:=1) rfl) hi9 ?_;conv=>whnf))|((try intro K hK);((with_reducible refine df ?_);refine eV (j:=0) (s:=t9) hu rfl rfl rfl ?_;conv=>whnf))|(refine sxZ ?_;try clear hK K)|refine sxW ?_ ?_<;>intro _|(intro K hK _;conv=>whnf)|(intro _;conv=>whnf)
 ·exact ⟨L',hn,fun t=>by rw [hm,Po.come_all hall9],rfl,Qw.pre 2 rfl⟩
 ·refine aC (seen.push i9,Po.add L' t9) ⟨Po.add_nodup hn t9,fun t=>by rw [Po.mem_add,hm,Po.come_push hi9,or_assoc]⟩ (Po.left_push (List.getElem?_eq_some_iff.1 hi9).1 hs9) ?_ (Qw.pre 3 rfl)
  exact aD
namespace Po
def okPre (N:List S) (seen:Array Nat) (pre:List S):Prop:=seen.toList.Nodup∧(∀ i∈seen.toList,i<N.length)∧pre=seen.toList.map fun i=>N.getD i default
theorem okPre_start (N:List S):okPre N #[] []:=⟨List.nodup_nil,fun i h=>by simp at h,rfl⟩
theorem okPre_push {N:List S} {seen:Array Nat} {pre:List S} {i:Nat} {t:S} (h:okPre N seen pre) (hi:N[i]?=some t) (hs:seen.contains i=false):okPre N (seen.push i) (pre++[t]):=by
 obtain ⟨h1,h2,h3⟩:=h
 have hlt:=(List.getElem?_eq_some_iff.1 hi).1
 have hno:i ∉ seen.toList:=fun hm=>by
  have:=Array.contains_iff_mem.2 (Array.mem_toList_iff.1 hm)
  rw [hs] at this
  cases this
 refine ⟨?_,fun j hj=>?_,?_⟩
 ·rw [Array.toList_push,List.nodup_append]
  exact ⟨h1,by simp,fun a ha b hb e=>by rw [List.mem_singleton.1 hb] at e;exact hno (e ▸ ha)⟩
 ·rw [Array.toList_push,List.mem_append] at hj
  rcases hj with hj | hj
  ·exact h2 j hj
  ·rw [List.mem_singleton.1 hj];exact hlt
 ·rw [Array.toList_push,List.map_append,h3]
  simp [List.getD_eq_getElem?_getD,hi]
theorem nodup_lenN:∀ (a b:List Nat),a.Nodup→(∀ x∈a,x∈b)→a.length≤b.length
 | [],_,_,_=>Nat.zero_le _
 | x::a,b,hn,hs=>by
  rw [List.nodup_cons] at hn
  have hx:x∈b:=hs x (by simp)
  have:=nodup_lenN a (b.erase x) hn.2 fun y hy=>(List.mem_erase_of_ne (fun e=>hn.1 (by rw [← e];exact hy))).2 (hs y (by simp [hy]))
  rw [List.length_erase_of_mem hx] at this
  have:=List.length_pos_of_mem hx
  rw [List.length_cons]
  omega
theorem okPre_lt {N:List S} {seen:Array Nat} {pre:List S} {i:Nat} {t:S} (h:okPre N seen pre) (hi:N[i]?=some t) (hs:seen.contains i=false):pre.length<N.length:=by
 obtain ⟨h1,h2,h3⟩:=okPre_push h hi hs
 have:=nodup_lenN _ (List.range N.length) h1 fun j hj=>List.mem_range.2 (h2 j hj)
 rw [List.length_range] at this
 have e:=congrArg List.length h3
 rw [List.length_map,List.length_append,List.length_singleton] at e
 omega
theorem okPre_end {N:List S} {seen:Array Nat} {pre:List S} (h:okPre N seen pre) (hall:∀ i,i<N.length→seen.contains i=true):pre.Perm N:=by
 obtain ⟨h1,h2,h3⟩:=h
 have hp:seen.toList.Perm (List.range N.length):=by
  rw [List.perm_iff_count]
  intro i
  have hr:(List.range N.length).Nodup:=List.nodup_range
  rw [h1.count,hr.count]
  have e:i∈seen.toList↔i∈List.range N.length:=⟨fun hm=>List.mem_range.2 (h2 i hm),fun hm=>Array.mem_toList_iff.2 (Array.contains_iff_mem.1 (hall i (List.mem_range.1 hm)))⟩
  simp only [e]
 have hm:(List.range N.length).map (fun i=>N.getD i default)=N:=by
  apply List.ext_getElem?
  intro i
  rw [List.getElem?_map]
  by_cases hi:i<N.length
  ·rw [List.getElem?_range hi,List.getElem?_eq_getElem hi]
   simp [List.getD_eq_getElem?_getD,hi]
  ·rw [List.getElem?_eq_none (by rw [List.length_range];omega),List.getElem?_eq_none (by omega)];rfl
 rw [h3]
 exact (hp.map _).trans (by rw [hm])
theorem sorted_eq {N L R:List S} (hp:L.Perm N) (hn:N.Nodup) (hs:L.Pairwise (fun x y=>¬ ahead y x)) (hR:Rising R) (hm:∀ t,t∈N↔t∈R):L=R:=by
 refine rising_eq ?_ hR fun t=>(hp.mem_iff).trans (hm t)
 have hnd:L.Nodup:=hp.nodup_iff.2 hn
 refine (hs.and hnd).imp fun {x y} h=>Classical.byContradiction fun hna=>h.2 (ahead_or hna h.1)
end Po
open Go.Sx Go.RowKit
set_option maxHeartbeats 2000000
theorem oi (F:Heap) (b:Nat) :
  Qz Tryz.prog 35 [.raw (.map (some b))] [hpB F] fun r m=>∃ c:Nat,r = .fn 71 [] [.ptr 1 ⟨c,0,none⟩ 0]∧m=[hpB F,⟨⟨c,0,none⟩,[.raw (.map (some b))],.var 88⟩]:=by
 refine aB Tryz.func35 rfl (by decide) ?_
 repeat' first|(refine sxZ ?_;try clear hK K)|refine sxW ?_ ?_<;>intro _|(intro K hK _;conv=>whnf)
 exact ⟨_,rfl,rfl⟩
def qQ (t:Po.S):List AV:=[.agg t.av]
def nL (lp:Nat) (cap:Addr) (c:Nat):List AV:=[.raw (.func (.yield lp) #[] #[]),.hp cap 0,.any,.any,.any,.raw (.pointer (some ⟨c,0,none⟩)),.any,.any,.any,.any,.any,.any,.any,.any]
def kyM (F:Heap) (c b n:Nat) (seen:Array Nat):List Blk:=[hpB F,itB c b n seen]
def rD (lp:Nat) (cap:Addr) (F:Heap) (b c base:Nat) (N:List Po.S) (J:List Po.S→World→Prop) (a:Go.Act) (W:World):Prop :=
 ∃ seen pre,Po.okPre N seen pre∧Qy (nL lp cap c) a.tmps∧a.defers=[]∧Qx (kyM F c b N.length seen) W∧J pre W
def ld (n c:Nat) (W:World):Nat :=
 match W.heap[c]? with
 | some (.mapIter _ _ seen _)=>Po.left n seen
 | _=>0
theorem mK {F:Heap} {c b n:Nat} {seen:Array Nat} {W:World} (h:Qx (kyM F c b n seen) W):ld n c W=Po.left n seen:=by
 have:=h.obj (j:=1) (b:=c) (o:=.mapIter (some b) n seen n) rfl
 unfold ld
 rw [this]
theorem cz {m:List Blk} {sl:List AV} {a:Go.Act} {W:World} (h1:Qy sl a.tmps) (h2:a.defers=[]) (h3:Qx m W):Sim W (own m) sl m a W :=
 ⟨h1,h2,h3,Fr.refl _ W,fun b hb=>.inl hb,fun b hb=>.inl hb⟩
theorem qp {F:Heap} {c b n:Nat} {seen:Array Nat} {k:Nat} (h:wrs (kyM F c b n seen) k):k=c:=by
 obtain ⟨k',hk',hw,hb⟩:=h
 simp only [kyM,List.mem_cons,List.not_mem_nil,or_false] at hk'
 rcases hk' with rfl | rfl
 ·cases hw
 ·replace hb:(itB c b n seen).bn=some k:=hb
  simp only [itB,Blk.bn,Option.some.injEq] at hb
  exact hb.symm
theorem ow {F:Heap} {k:Nat} (h:wrs [hpB F] k):False:=by
 obtain ⟨k',hk',hw,_⟩:=h
 rw [List.mem_singleton] at hk'
 subst hk'
 cases hw
theorem cQ {F:Heap} {c b n:Nat} {seen:Array Nat} {A B:World} (h:Fr (wrs (kyM F c b n seen)) A B):A.grownBy B (some c) :=
 ⟨h.os,h.tape,h.output,h.size,fun k hk hne=>h.block k hk fun hw=>hne (by rw [qp hw])⟩
theorem oh {F:Heap} {c b n:Nat} {seen:Array Nat} {m1:List Blk} {w A B:World} (hm:Qx m1 w) (hF:hpB F∈m1) (hc:w.heap.size≤c) (h:Qx (kyM F c b n seen) A) (hs:mT m1 w A B):Qx (kyM F c b n seen) B:=by
 have h1:Qx [hpB F] A:=⟨fun k hk=>h.holds k (by rw [List.mem_singleton] at hk;subst hk;simp [kyM]),by simp⟩
 have h2:=hm.still hF h1 hs
 have h3:=h.obj (j:=1) (b:=c) (o:=.mapIter (some b) n seen n) rfl
 refine ⟨fun k hk=>?_,h.sep⟩
 simp only [kyM,List.mem_cons,List.not_mem_nil,or_false] at hk
 rcases hk with rfl | rfl
 ·exact h2.holds _ (by simp)
 ·exact ⟨rfl,rfl,rfl,hs.2.2 c _ hc h3 rfl⟩
theorem lf (F:Heap) (b:Nat) (N:List Po.S) (m1:List Blk) (hF:hpB F∈m1) (cap:Addr) (hc:F.c cap (.map (some b))) (hb:F.o b (aV (Po.sM N))) :
  pj Tryz.prog 71 [.hp cap 0] m1 qQ (fun ys=>ys.Perm N) N.length:=by
 have hu:Tryz.prog.underlying 88=some (.map 48 94):=by kernel_rfl
 have hc0:F.c (cap.add 0) (.map (some b)):=by simpa [Addr.add] using hc
 have hmi:∀ m:List Blk,m[0]?=some (hpB F)→bN m b (Po.sM N):=fun m h=>bN.heap h hb
 intro w hm lp J Jx W hW hJ hJx hY h0
 have hmW:Qx [hpB F] W:=(hm.one_of hF).keep hW.size fun k hk b hb=>by
  rw [List.mem_singleton] at hk
  subst hk
  exact hW.block b ((hm.holds _ hF).lt hb)
 refine callsIn_of_wp Tryz.func71 rfl trivial ?_ rfl
 have hs0:Qy ([.raw (.func (.yield lp) #[] #[]),.hp cap 0,.any,.any,.any,.any,.any,.any,.any,.any,.any,.any,.any,.any]) (#[.func (.yield lp) #[] #[]]++(denL [.hp cap 0]).toArray++Array.replicate (14 - 2) undef) :=
  dz (args:=[.raw (.func (.yield lp) #[] #[]),.hp cap 0]) (n:=14) (by show 2≤_;decide)
 refine wpIn_seq (wpIn_mono (wpIn_wide.2 (ad (Q:=fun e sl' m'=>e = .normal∧∃ c,m'=kyM F c b N.length #[]∧Qq sl' (nL lp cap c)) ?_ (cz (sl:=[.raw (.func (.yield lp) #[] #[]),.hp cap 0,.any,.any,.any,.any,.any,.any,.any,.any,.any,.any,.any,.any]) (a:={ tmps:=_,defers:=[] }) hs0 rfl hmW))) ?_)
 ·clear hs0 hY
  repeat' first|((try intro K hK);((with_reducible refine df ?_);refine eJ (N:=N) hu (hmi _ rfl) fun c=>?_;conv=>whnf))|(refine sxZ ?_;try clear hK K)|refine sxW ?_ ?_<;>intro _|(intro K hK _;conv=>whnf)|(intro _;conv=>whnf)
  refine ⟨rfl,_,rfl,?_⟩
  unfold nL
  exact aD
 rintro e a w1 ⟨sl,m,⟨rfl,c,rfl,hfit⟩,hsm⟩
 have hcW:W.heap.size≤c:=by
  rcases hsm.fresh.1 c ⟨itB c b N.length #[],by simp [kyM],rfl,rfl⟩ with h | h
  ·exact (ow h).elim
  ·exact h
 have hcw:w.heap.size≤c:=Nat.le_trans hW.size hcW
 have hJ1:J [] w1:=hJ _ _ _ none h0 ⟨hsm.fr.os,hsm.fr.tape,hsm.fr.output,hsm.fr.size,fun k hk _=>hsm.fr.block k hk ow⟩ (by simp)
 have hwalk:∀ {seen:Array Nat} {A:World},Qx (kyM F c b N.length seen) A→∀ r,some c=some r→W.heap.size≤r∧∃ o:Obj,A.heap[r]?=some o∧o.isWalk=true:=fun {seen A} h r e=>by
  cases e
  exact ⟨hcW,_,h.obj (j:=1) (b:=c) (o:=.mapIter (some b) N.length seen N.length) rfl,rfl⟩
 refine wpIn_block (wpIn_loop (rD lp cap F b c w.heap.size N J) (fun _ W=>ld N.length c W) ⟨#[],[],Po.okPre_start N,hsm.slots.fits hfit,hsm.defers,hsm.mem,hJ1⟩ ?_)
 rintro a W2 ⟨seen,pre,hok,hsl,hd,hm2,hJ2⟩
 dsimp only
 rw [mK hm2]
 refine wpIn_seq (wpIn_mono (wpIn_wide.2 (ad (Q:=fun e sl' m'=>e = .normal∧(((∀ i,i<N.length→seen.contains i=true)∧m'=kyM F c b N.length seen∧Qq sl' ([.any,.any,.any,.any,.any,.any,.any,.bool false,.any,.any,.any,.any,.any,.any]))∨∃ i t,N[i]?=some t∧seen.contains i=false∧m'=kyM F c b N.length (seen.push i)∧Qq sl' ([.raw (.func (.yield lp) #[] #[]),.hp cap 0,.any,.any,.any,.raw (.pointer (some ⟨c,0,none⟩)),.any,.bool true,.any,.any,.any,.any,.any,.any]))) ?_ (cz hsl hd hm2))) ?_)
 ·unfold nL kyM
  repeat' first|((try intro K hK);((with_reducible refine df ?_);refine ep (N:=N) (j:=1) rfl (hmi _ rfl) ?_ ?_<;>first | (intro i9 t9 hi9 hs9;conv=>whnf) | (intro hall9;conv=>whnf)))|(refine sxZ ?_;try clear hK K)|refine sxW ?_ ?_<;>intro _|(intro K hK _;conv=>whnf)|(intro _;conv=>whnf)
  ·refine ⟨rfl,.inl ⟨hall9,rfl,?_⟩⟩
   exact aD
  ·refine ⟨rfl,.inr ⟨i9,t9,hi9,hs9,rfl,?_⟩⟩
   exact aD
 rintro e a1 W3 ⟨sl1,m1',⟨rfl,hq⟩,hs1'⟩
 have hJ3:J pre W3:=hJ _ _ _ (some c) hJ2 (cQ hs1'.fr) (hwalk hm2)
 have hd3:=hs1'.defers
 rcases hq with ⟨hall,rfl,hfit1⟩ | ⟨i,t,hit,hsn,rfl,hfit1⟩
 ·refine wpIn_seq (wpIn_mono (wpIn_wide.2 (ad (Q:=fun e sl' m'=>e = .exit 0∧m'=kyM F c b N.length seen) ?_ (cz (hs1'.slots.fits hfit1) hd3 hs1'.mem))) ?_)
  ·repeat' first|(refine sxZ ?_;try clear hK K)|refine sxW ?_ ?_<;>intro _|(intro K hK _;conv=>whnf)
   exact ⟨rfl,rfl⟩
  rintro e a2 W4 ⟨sl2,m2,⟨rfl,rfl⟩,hs2'⟩
  refine ⟨hs2'.defers,_,by simp [results,Tryz.f71];rfl,⟨_,rfl⟩,.inl ⟨pre,Po.okPre_end hok hall,?_⟩⟩
  exact hJ _ _ _ (some c) hJ3 (cQ hs2'.fr) (hwalk hs1'.mem)
 ·have hsl3:=hs1'.slots.fits hfit1
  have hm3:=hs1'.mem
  have hok3:=Po.okPre_push hok hit hsn
  have hlt3:=Po.okPre_lt hok hit hsn
  have hleft:Po.left N.length (seen.push i)<Po.left N.length seen:=Po.left_push (List.getElem?_eq_some_iff.1 hit).1 hsn
  clear hs1' hfit1 hm2 hJ2 hsl hd
  refine wpIn_seq (wpIn_mono (wpIn_wide.2 (ad (Q:=fun e sl' m'=>e = .normal∧m'=kyM F c b N.length (seen.push i)∧Qq sl' ([.raw (.func (.yield lp) #[] #[]),.hp cap 0,.any,.any,.any,.raw (.pointer (some ⟨c,0,none⟩)),.any,.any,.any,.any,.any,.any,.any,.any])) ?_ (cz hsl3 hd3 hm3))) ?_)
  ·repeat' first|(refine sxZ ?_;try clear hK K)|refine sxW ?_ ?_<;>intro _|(intro K hK _;conv=>whnf)
   refine ⟨rfl,rfl,?_⟩
   exact aD
  rintro e a2 W4 ⟨sl2,m2,⟨rfl,rfl,hfit2⟩,hs2'⟩
  have hJ4:J pre W4:=hJ _ _ _ (some c) hJ3 (cQ hs2'.fr) (hwalk hm3)
  have hm4:=hs2'.mem
  have hsl4:=hs2'.slots.fits hfit2
  have hd4:=hs2'.defers
  clear hs2' hfit2
  refine wpIn_block (wpIn_seq (wpIn_mono (wpIn_wide.2 (ad (Q:=fun e sl' m'=>e = .normal∧∃ k:Nat,m'=kyM F c b N.length (seen.push i)++[⟨⟨k,0,none⟩,t.av,.var 48⟩]∧Qq sl' ([.raw (.func (.yield lp) #[] #[]),.hp cap 0,.any,.ptr 2 ⟨k,0,none⟩ 0,.any,.raw (.pointer (some ⟨c,0,none⟩)),.any,.any,.any,.any,.any,.any,.any,.any])) ?_ (cz hsl4 hd4 hm4))) ?_))
  ·unfold kyM
   repeat' first|((try intro K hK);((with_reducible refine df ?_);refine fq (N:=N) (j:=1) rfl (hmi _ rfl) hit ?_;conv=>whnf))|(refine sxZ ?_;try clear hK K)|refine sxW ?_ ?_<;>intro _|(intro K hK _;conv=>whnf)|(intro _;conv=>whnf)
   refine ⟨rfl,_,rfl,?_⟩
   exact aD
  rintro e a3 W5 ⟨sl3,m3,⟨rfl,k,rfl,hfit3⟩,hs3'⟩
  have hJ5:J pre W5:=hJ _ _ _ (some c) hJ4 (cQ hs3'.fr) (hwalk hm4)
  obtain ⟨F2,hF2⟩:∃ F2,F2=addF F ⟨k,0,none⟩ (denL t.av):=⟨_,rfl⟩
  have hle:F.le F2:=by rw [hF2];exact addF.old
  have hcells:CellsF F2 ⟨k,0,none⟩ 0 (denL t.av):=by rw [hF2];exact addF.new
  have hm5:Qx (kyM F2 c b N.length (seen.push i)) W5:=by
   have h1:=((Qw.pick [0,2,1] (by decide) rfl:Qw (kyM F c b N.length (seen.push i)++[⟨⟨k,0,none⟩,t.av,.var 48⟩]) [hpB F,⟨⟨k,0,none⟩,t.av,.var 48⟩,itB c b N.length (seen.push i)]) W5 hs3'.mem).1
   have h2:=(Qw.freezeVar W5 h1).1
   rw [hF2]
   exact h2
  have hsl5:Qy ([.raw (.func (.yield lp) #[] #[]),.hp cap 0,.any,.hp ⟨k,0,none⟩ 0,.any,.raw (.pointer (some ⟨c,0,none⟩)),.any,.any,.any,.any,.any,.any,.any,.any]) a3.tmps:=(hs3'.slots.fits hfit3).fits (by
   repeat (first | exact Qq.nil | refine Qq.any ?_ | refine Qq.cons (.inr ⟨(fun h=>by cases h),rfl⟩) ?_))
  have hd5:=hs3'.defers
  clear hs3' hfit3 hF2
  refine wpIn_seq (wpIn_region_list ?_)
  have hsplit:∀ (l:List Oper),l=l.take 2++l.drop 2:=fun l=>(List.take_append_drop 2 l).symm
  rw [hsplit (Array.toList _)]
  refine iC (k:=fun sl' m'=>m'=kyM F2 c b N.length (seen.push i)∧Qq sl' ([.raw (.func (.yield lp) #[] #[]),.hp cap 0,.any,.any,.any,.raw (.pointer (some ⟨c,0,none⟩)),.any,.any,.any,.any,.raw (.func (.yield lp) #[] #[]),.agg t.av,.any,.any])) ?_ (cz hsl5 hd5 hm5) ?_
  ·obtain ⟨d0,d1,d2,d3,d4,_⟩:=hcells
   unfold kyM
   clear hY hJ hJx
   obtain ⟨a0,q0,q1,q2,q3⟩:=t
   simp only [Po.S.av] at *
   show opsK _ _ (_::_::[]) _ _ _
   repeat' first|(refine sxZ ?_;try clear hK K)|refine sxW ?_ ?_<;>intro _|(intro K hK _;conv=>whnf)
   refine ⟨rfl,?_⟩
   exact aD
  rintro sl6 m6 a6 W6 ⟨rfl,hfit6⟩ hs6
  have hJ6:J pre W6:=hJ _ _ _ (some c) hJ5 (cQ hs6.fr) (fun r e=>by
   cases e
   exact ⟨hcW,_,hm5.obj (j:=1) (b:=c) (o:=.mapIter (some b) N.length (seen.push i) N.length) rfl,rfl⟩)
  have hm6:Qx (kyM F c b N.length (seen.push i)) W6:=(Qw.less hle _ W6 hs6.mem).1
  have hsl6:=hs6.slots.fits hfit6
  have hd6:=hs6.defers
  have hY':=hY _ t W6 hJ6 hlt3
  have hat:∀ (i:Nat) (y:AV),([.raw (.func (.yield lp) #[] #[]),.hp cap 0,.any,.any,.any,.raw (.pointer (some ⟨c,0,none⟩)),.any,.any,.any,.any,.raw (.func (.yield lp) #[] #[]),.agg t.av,.any,.any])[i]?=some y→y≠.any→a6.tmps[i]?=some y.den:=fun i y hy hne=>by
   have hlt:i<a6.tmps.size:=by rw [← hsl6.1];exact (List.getElem?_eq_some_iff.1 hy).1
   have:=hsl6.2 i y a6.tmps[i] hy (by simp [hlt])
   rcases this with h | h
   ·exact (hne h).elim
   ·simp [hlt,h]
  refine kx (lp:=lp) rfl rfl (by simp [Go.Act.eval,hat 10 _ rfl (by simp),AV.den]) (vs:=(denL (qQ t)).toArray) ?_ hY' ?_
  ·simp [Go.Act.eval,hat 11 _ rfl (by simp),AV.den,qQ,denL]
  rintro e W7 (⟨rfl,hJ7,hst⟩ | ⟨rfl,hJ7⟩)
  ·refine ⟨_,rfl,?_⟩
   have hm7:=oh hm hF hcw hm6 hst
   refine ju (k:=fun sl' m'=>m'=kyM F c b N.length (seen.push i)∧Qq sl' ([.raw (.func (.yield lp) #[] #[]),.hp cap 0,.any,.any,.any,.raw (.pointer (some ⟨c,0,none⟩)),.any,.any,.any,.any,.any,.any,.any,.bool false])) ?_ (cz (a:=a6.put (some 12) (.bool true)) (hsl6.set 12 (.bool true)) hd6 hm7) ?_
   ·repeat' first|(refine sxZ ?_;try clear hK K)|refine sxW ?_ ?_<;>intro _|(intro K hK _;conv=>whnf)
    refine ⟨rfl,?_⟩
    exact aD
   rintro sl8 m8 a8 W8 ⟨rfl,hfit8⟩ hs8
   have hJ8:=hJ _ _ _ (some c) hJ7 (cQ hs8.fr) (hwalk hm7)
   refine wpIn_mono (wpIn_wide.2 (ad (Q:=fun e sl' m'=>e = .normal∧m'=kyM F c b N.length (seen.push i)∧Qq sl' (nL lp cap c)) ?_ (cz (hs8.slots.fits hfit8) hs8.defers hs8.mem))) ?_
   ·repeat' first|(refine sxZ ?_;try clear hK K)|refine sxW ?_ ?_<;>intro _|(intro K hK _;conv=>whnf)
    refine ⟨rfl,rfl,?_⟩
    unfold nL
    exact aD
   rintro e a9 W9 ⟨sl9,m9,⟨rfl,rfl,hfit9⟩,hs9⟩
   have hJ9:=hJ _ _ _ (some c) hJ8 (cQ hs9.fr) (hwalk hs8.mem)
   refine ⟨⟨seen.push i,pre++[t],hok3,hs9.slots.fits hfit9,hs9.defers,hs9.mem,hJ9⟩,?_⟩
   rw [mK hs9.mem]
   exact hleft
  ·refine ⟨_,rfl,?_⟩
   refine ju (k:=fun sl' m'=>m'=[]∧Qq sl' ([.any,.any,.any,.any,.any,.any,.any,.any,.any,.any,.any,.any,.any,.bool true])) ?_ (cz (m:=[]) (a:=a6.put (some 12) (.bool false)) (hsl6.set 12 (.bool false)) hd6 (Qx.nil W7)) ?_
   ·repeat' first|(refine sxZ ?_;try clear hK K)|refine sxW ?_ ?_<;>intro _|(intro K hK _;conv=>whnf)
    refine ⟨rfl,?_⟩
    exact aD
   rintro sl8 m8 a8 W8 ⟨rfl,hfit8⟩ hs8
   refine wpIn_mono (wpIn_wide.2 (ad (Q:=fun e sl' m'=>e = .ret∧m'=[]) ?_ (cz (hs8.slots.fits hfit8) hs8.defers hs8.mem))) ?_
   ·repeat' first|(refine sxZ ?_;try clear hK K)|refine sxW ?_ ?_<;>intro _|(intro K hK _;conv=>whnf)
    exact ⟨rfl,rfl⟩
   rintro e a9 W9 ⟨sl9,m9,⟨rfl,rfl⟩,hs9⟩
   have gr:∀ {A B:World},Fr (wrs []) A B→A.grownBy B none:=fun h=>⟨h.os,h.tape,h.output,h.size,fun k hk _=>h.block k hk fa⟩
   refine ⟨hs9.defers,_,by simp [results,Tryz.f71];rfl,⟨_,rfl⟩,.inr ⟨pre++[t],trivial,?_⟩⟩
   exact hJx _ _ _ none (hJx _ _ _ none hJ7 (gr hs8.fr) (by simp)) (gr hs9.fr) (by simp)
set_option maxHeartbeats 4000000
theorem p8 (F:Heap) (f v:Int) (pu u:Value) (sw:Int) (hx:Po.At F (.mk 2 Po.noneP f v []) pu u) (s:Po.S) (b:Nat) (L:List Po.S) (hL:L.Nodup) :
  Qz Tryz.prog 33 [.raw (.map (some b)),.agg (Po.cs (.mk 2 Po.noneP f v []) pu u),.int .i64 sw,.agg s.av] [hpB F,aa b (Po.sM L)] fun r m=>Po.doneR F b L (fun t=>t∈Po.runs sw (.mk 2 Po.noneP f v []) s) r m:=by
 refine Qz.fits (K:=fun r m=>∃ L':List Po.S,L'.Nodup∧(∀ t,t∈L'↔t∈L∨t∈Po.runs sw (.mk 2 Po.noneP f v []) s)∧r = .tup []∧Qw m [hpB F,aa b (Po.sM L')]) ?_ fun r m' ⟨L',h1,h2,h3,h4⟩=>⟨r,_,rfl,h4,L',h1,h2,h3,rfl⟩
 have hok:=hx.l.ok
 have hpok:=hx.p.ok
 have cs:=p4 2 f v 0 0 0 (.hs pu 0) (.hs u 0) s
 have hr:=Po.runs_mk sw 2 Po.noneP f v [] s
 rw [if_neg (by decide),if_pos rfl] at hr
 have hu:Tryz.prog.underlying 88=some (.map 48 94):=by kernel_rfl
 generalize Po.put f v s=z at *
 have hadd:=Po.add_nodup hL z
 have hmem:=fun t=>Po.mem_add (L:=L) (s:=z) (t:=t)
 rw [hr]
 clear hr hx
 rw [aY]
 unfold Po.noneP
 have hkey:(AV.agg z.av).den=z.key:=rfl
 obtain ⟨a0,a,b',c,d⟩:=s
 simp only [pd_cs,Pd.T.k,Pd.T.f,Pd.T.v,Pd.T.l,Po.S.av,List.length_nil] at *
 refine aB Tryz.func33 rfl (by decide) ?_
 repeat' first|((try intro K hK);(with_reducible refine gC ?_);refine cP cs ?_)|((try intro K hK);((with_reducible refine df ?_);refine eV (j:=1) hu rfl hkey rfl ?_;conv=>whnf))|(refine sxZ ?_;try clear hK K)|refine sxW ?_ ?_<;>intro _|(intro K hK _;conv=>whnf)|(intro _;conv=>whnf)
 all_goals exact ⟨_,hadd,fun t=>by rw [hmem];simp,rfl,Qw.pre 2 rfl⟩
theorem p6 (F:Heap) (l:List Po.T) (pu u:Value) (sw:Int) (hln:l.length≤1000) (hx:Po.At F (.mk 4 Po.noneP 0 0 l) pu u) (s:Po.S) (b:Nat) (L:List Po.S) (hL:L.Nodup)
  (ih:∀ y∈l,∀ pw w,Po.At F y pw w→∀ (s:Po.S) (b:Nat) (L:List Po.S),L.Nodup→Qz Tryz.prog 33 [.raw (.map (some b)),.agg (Po.cs y pw w),.int .i64 sw,.agg s.av] [hpB F,aa b (Po.sM L)] fun r m=>Po.doneR F b L (fun t=>t∈Po.runs sw y s) r m) :
  Qz Tryz.prog 33 [.raw (.map (some b)),.agg (Po.cs (.mk 4 Po.noneP 0 0 l) pu u),.int .i64 sw,.agg s.av] [hpB F,aa b (Po.sM L)] fun r m=>Po.doneR F b L (fun t=>t∈Po.runs sw (.mk 4 Po.noneP 0 0 l) s) r m:=by
 refine Qz.fits (K:=fun r m=>∃ L':List Po.S,L'.Nodup∧(∀ t,t∈L'↔t∈L∨t∈Po.runs sw (.mk 4 Po.noneP 0 0 l) s)∧r = .tup []∧Qw m [hpB F,aa b (Po.sM L')]) ?_ fun r m' ⟨L',h1,h2,h3,h4⟩=>⟨r,_,rfl,h4,L',h1,h2,h3,rfl⟩
 have hrow:Po.Row F u l:=hx.l
 have hok:=hrow.ok
 have hpok:SlOk pu 0:=hx.p.ok
 have hr:=Po.runs_mk sw 4 Po.noneP 0 0 l s
 rw [if_neg (by decide),if_neg (by decide),if_neg (by decide),if_pos rfl] at hr
 have hmr:∀ t,t∈Po.runs sw (.mk 4 Po.noneP 0 0 l) s↔∃ y∈l,t∈Po.runs sw y s:=fun t=>by rw [hr];exact (Po.mem_runsU sw s t l []).trans (by simp)
 simp only [hmr]
 clear hr hmr hx
 rw [aY]
 unfold Po.noneP
 have ih:∀ y∈l,∀ pw w,Po.At F y pw w→∀ (b:Nat) (L:List Po.S),L.Nodup→Qz Tryz.prog 33 [.raw (.map (some b)),.agg (Po.cs y pw w),.int .i64 sw,.agg s.av] [hpB F,aa b (Po.sM L)] fun r m=>∃ L':List Po.S,L'.Nodup∧(∀ t,t∈L'↔t∈L∨t∈Po.runs sw y s)∧r = .tup []∧m=[hpB F,aa b (Po.sM L')]:=fun y hy pw w hA b L hL=>ih y hy pw w hA s b L hL
 obtain ⟨a0,a,b',c,d⟩:=s
 generalize Po.runs sw=R at *
 simp only [pd_cs,Pd.T.k,Pd.T.f,Pd.T.v,Pd.T.l,Po.S.av,List.length_nil] at *
 refine aB Tryz.func33 rfl (by decide) ?_
 repeat' first|(refine sxZ ?_;try clear hK K)|refine sxW ?_ ?_<;>intro _|(intro K hK _;conv=>whnf)
 refine aE (α:=Nat × List Po.S) (fun (i,L')=>i≤l.length∧L'.Nodup∧∀ t,t∈L'↔t∈L∨∃ y∈l.take i,t∈R y ⟨a0,a,b',c,d⟩) (fun (i,L')=>[.k,.k,.k,.k,.k,.k,.k,.k,.k,.d,.k,.k,.k,.k,.k,.k,.k,.k,.k,.k,.k,.k,.k,.k,.k,.k,.k,.k,.k,.k,.k,.k,.k,.k,.k,.k,.k,.k,.k,.k,.k,.k,.k,.set (.int .i64 i),.d,.d,.d,.d,.d,.d,.d,.d,.d,.k,.k,.k,.k,.k,.k,.k,.k,.k,.k,.k,.k,.k,.k,.k,.k,.k,.k,.k,.k,.k,.k,.k,.k,.k,.k,.k,.k,.k,.k,.k,.k,.k,.k,.k,.k,.k,.k,.k,.k,.k,.k,.k,.k,.k,.k,.k,.k,.k]) (fun (i,L')=>[.k,.set (aa b (Po.sM L'))]) (fun (i,L')=>l.length - i) (0,L) ⟨Nat.zero_le _,hL,fun t=>by simp⟩ ?_ ?_ ?_
 ·exact aD
 ·exact Qw.eq rfl
 (intro ⟨i,L'⟩ ⟨hi,hn,hm⟩;intro K hK;(conv=>whnf);refine hK _ _ ?_;clear hK K)
 dsimp only
 by_cases hlt:i<l.length
 ·have hx:l[i]?=some l[i]:=List.getElem?_eq_getElem hlt
  obtain ⟨pA,pcap,A,cap,hA,c0,c1,c2,c3,c4,c5,c6,c7⟩:=hrow.get hx
  have hAo:=hA.l.ok
  have hAp:=hA.p.ok
  have cc:=ih _ (List.mem_of_getElem? hx) _ _ hA b L' hn
  have hnx:l.take (i+1)=l.take i++[l[i]]:=by rw [List.take_add_one,hx];rfl
  clear ih
  generalize l[i]=y at *
  have hstep:∀ L2:List Po.S,(∀ t,t∈L2↔t∈L'∨t∈R y ⟨a0,a,b',c,d⟩)→∀ t,t∈L2↔t∈L∨∃ y∈l.take (i+1),t∈R y ⟨a0,a,b',c,d⟩:=fun L2 h2 t=>by
   rw [h2,hm,hnx]
   simp only [List.mem_append,List.mem_singleton,or_and_right,exists_or,exists_eq_left,or_assoc]
  obtain ⟨yk,⟨ypk,ypf,ypv,ypl⟩,yf,yv,yl⟩:=y
  simp only [Po.cs,Po.T.k,Po.T.p,Po.T.f,Po.T.v,Po.T.l,Pd.T.k,Pd.T.f,Pd.T.v,Pd.T.l] at cc c0 c1 c2 c3 c4 c5 c6 c7 hAo hAp
  repeat' first|(intro K hK;(with_reducible refine gC ?_);(refine cN [0,1] cc ?_;rintro _ _ ⟨L2,hn2,hm2,rfl,rfl⟩;refine cR ?_))|(refine sxZ ?_;try clear hK K)|refine sxW ?_ ?_<;>intro _|(intro K hK _;conv=>whnf)
  all_goals
   refine aC (i+1,L2) ⟨hlt,hn2,hstep L2 hm2⟩ (show l.length - (i+1)<l.length - i by omega) ?_ (Qw.pre 4 rfl)
   exact aD
 ·obtain rfl:i=l.length:=by omega
  rw [List.take_length] at hm
  clear ih
  repeat' first|(refine sxZ ?_;try clear hK K)|refine sxW ?_ ?_<;>intro _|(intro K hK _;conv=>whnf)
  all_goals exact ⟨L',hn,hm,rfl,Qw.pre 2 rfl⟩
theorem run27_5 (F:Heap) (p:Pd.T) (x y:Po.T) (pu u:Value) (sw:Int) (hs:Pd.size p≤4611686018427387904) (hx:Po.At F (.mk 5 p 0 0 [x,y]) pu u) (s:Po.S) (b:Nat) (L:List Po.S) (hL:L.Nodup)
  (ih:∀ z∈[x,y],∀ pw w,Po.At F z pw w→∀ (s:Po.S) (b:Nat) (L:List Po.S),L.Nodup→Qz Tryz.prog 33 [.raw (.map (some b)),.agg (Po.cs z pw w),.int .i64 sw,.agg s.av] [hpB F,aa b (Po.sM L)] fun r m=>Po.doneR F b L (fun t=>t∈Po.runs sw z s) r m) :
  Qz Tryz.prog 33 [.raw (.map (some b)),.agg (Po.cs (.mk 5 p 0 0 [x,y]) pu u),.int .i64 sw,.agg s.av] [hpB F,aa b (Po.sM L)] fun r m=>Po.doneR F b L (fun t=>t∈Po.runs sw (.mk 5 p 0 0 [x,y]) s) r m:=by
 refine Qz.fits (K:=fun r m=>∃ L':List Po.S,L'.Nodup∧(∀ t,t∈L'↔t∈L∨t∈Po.runs sw (.mk 5 p 0 0 [x,y]) s)∧r = .tup []∧Qw m [hpB F,aa b (Po.sM L')]) ?_ fun r m' ⟨L',h1,h2,h3,h4⟩=>⟨r,_,rfl,h4,L',h1,h2,h3,rfl⟩
 have hrow:Po.Row F u [x,y]:=hx.l
 have hok:=hrow.ok
 have hpok:=hx.p.ok
 have ch:=ku F (s.at_ sw) p pu hs hx.p
 have hr:=Po.runs_mk sw 5 p 0 0 [x,y] s
 rw [if_neg (by decide),if_neg (by decide),if_neg (by decide),if_neg (by decide),if_pos rfl] at hr
 rw [hr]
 clear hr hx
 have ha:Po.runsA sw [x,y] s=Po.runs sw x s:=by rw [Po.runsA]
 have hb2:Po.runsB sw [x,y] s=Po.runs sw y s:=by rw [Po.runsB,Po.runsA]
 rw [ha,hb2]
 clear ha hb2
 rw [aY]
 generalize Pd.hits (s.at_ sw) p=hb at *
 obtain ⟨pk,pf,pv,pl⟩:=p
 simp only [Po.doneR] at ih
 cases hb with
 | true =>
  obtain ⟨pA,pcap,A,cap,hA,c0,c1,c2,c3,c4,c5,c6,c7⟩:=hrow.get (i:=0) (x:=x) rfl
  have hAo:=hA.l.ok
  have hAp:=hA.p.ok
  have cc:=ih x (by simp) _ _ hA s b L hL
  clear ih
  rw [if_pos rfl]
  generalize Po.runs sw x s=R at *
  obtain ⟨yk,⟨ypk,ypf,ypv,ypl⟩,yf,yv,yl⟩:=x
  obtain ⟨a0,a,b',c,d⟩:=s
  simp only [pd_cs,Po.cs,Po.T.k,Po.T.p,Po.T.f,Po.T.v,Po.T.l,Pd.T.k,Pd.T.f,Pd.T.v,Pd.T.l,Po.S.av,Po.S.at_,Pd.At.pk] at *
  refine aB Tryz.func33 rfl (by decide) ?_
  repeat' first|(intro K hK;(with_reducible refine gC ?_);first|refine cS [0] ch ?_|(refine cN [0,1] cc ?_;rintro _ _ ⟨L2,hn2,hm2,rfl,rfl⟩;refine cR ?_))|(refine aJ [1] ?_;try clear hK K)|refine sxW ?_ ?_<;>intro _|refine aK ?_ ?_|(intro K hK _;conv=>whnf)
  all_goals exact ⟨L2,hn2,hm2,rfl,Qw.pre 2 rfl⟩
 | false =>
  obtain ⟨pA,pcap,A,cap,hA,c0,c1,c2,c3,c4,c5,c6,c7⟩:=hrow.get (i:=1) (x:=y) rfl
  have hAo:=hA.l.ok
  have hAp:=hA.p.ok
  have cc:=ih y (by simp) _ _ hA s b L hL
  clear ih
  rw [if_neg (by decide)]
  generalize Po.runs sw y s=R at *
  obtain ⟨yk,⟨ypk,ypf,ypv,ypl⟩,yf,yv,yl⟩:=y
  obtain ⟨a0,a,b',c,d⟩:=s
  simp only [pd_cs,Po.cs,Po.T.k,Po.T.p,Po.T.f,Po.T.v,Po.T.l,Pd.T.k,Pd.T.f,Pd.T.v,Pd.T.l,Po.S.av,Po.S.at_,Pd.At.pk] at *
  refine aB Tryz.func33 rfl (by decide) ?_
  repeat' first|(intro K hK;(with_reducible refine gC ?_);first|refine cS [0] ch ?_|(refine cN [0,1] cc ?_;rintro _ _ ⟨L2,hn2,hm2,rfl,rfl⟩;refine cR ?_))|(refine aJ [1] ?_;try clear hK K)|refine sxW ?_ ?_<;>intro _|refine aK ?_ ?_|(intro K hK _;conv=>whnf)
  all_goals exact ⟨L2,hn2,hm2,rfl,Qw.pre 2 rfl⟩
theorem p7 (F:Heap) (l:List Po.T) (pu u:Value) (sw:Int) (hln:l.length≤1000) (hx:Po.At F (.mk 3 Po.noneP 0 0 l) pu u) (s:Po.S) (b:Nat) (L:List Po.S) (hL:L.Nodup)
  (ih:∀ y∈l,∀ pw w,Po.At F y pw w→∀ (s:Po.S) (b:Nat) (L:List Po.S),L.Nodup→Qz Tryz.prog 33 [.raw (.map (some b)),.agg (Po.cs y pw w),.int .i64 sw,.agg s.av] [hpB F,aa b (Po.sM L)] fun r m=>Po.doneR F b L (fun t=>t∈Po.runs sw y s) r m) :
  Qz Tryz.prog 33 [.raw (.map (some b)),.agg (Po.cs (.mk 3 Po.noneP 0 0 l) pu u),.int .i64 sw,.agg s.av] [hpB F,aa b (Po.sM L)] fun r m=>Po.doneR F b L (fun t=>t∈Po.runs sw (.mk 3 Po.noneP 0 0 l) s) r m:=by
 refine Qz.fits (K:=fun r m=>∃ L':List Po.S,L'.Nodup∧(∀ t,t∈L'↔t∈L∨t∈Po.runs sw (.mk 3 Po.noneP 0 0 l) s)∧r = .tup []∧Qw m [hpB F,aa b (Po.sM L')]) ?_ fun r m' ⟨L',h1,h2,h3,h4⟩=>⟨r,_,rfl,h4,L',h1,h2,h3,rfl⟩
 have hrow:Po.Row F u l:=hx.l
 have hok:=hrow.ok
 have hpok:SlOk pu 0:=hx.p.ok
 have hr:=Po.runs_mk sw 3 Po.noneP 0 0 l s
 rw [if_neg (by decide),if_neg (by decide),if_pos rfl] at hr
 rw [hr]
 clear hr hx
 have hu:Tryz.prog.underlying 88=some (.map 48 94):=by kernel_rfl
 have hkey:(AV.agg s.av).den=s.key:=rfl
 have ih:∀ y∈l,∀ pw w,Po.At F y pw w→∀ (t:Po.S) (b:Nat) (L:List Po.S),L.Nodup→Qz Tryz.prog 33 [.raw (.map (some b)),.agg (Po.cs y pw w),.int .i64 sw,.agg [.int .i64 t.port,.int .i64 t.p0,.int .i64 t.p1,.int .i64 t.p2,.int .i64 t.p3]] [hpB F,aa b (Po.sM L)] fun r m=>∃ L':List Po.S,L'.Nodup∧(∀ q,q∈L'↔q∈L∨q∈Po.runs sw y t)∧r = .tup []∧m=[hpB F,aa b (Po.sM L')]:=fun y hy pw w hA t b L hL=>ih y hy pw w hA t b L hL
 have h0:Po.runsQ sw (l.take 0) [s]=[s]:=by rw [List.take_zero,Po.runsQ]
 have hnxt:∀ (k:Nat) (h:k<l.length) (q:Po.S),q∈Po.runsQ sw (l.take (k+1)) [s]↔∃ t∈Po.runsQ sw (l.take k) [s],q∈Po.runs sw l[k] t:=fun k h q=>by rw [Po.runsQ_take sw h];exact Po.mem_then sw l[k] q _
 have hend:Po.runsQ sw (l.take l.length) [s]=Po.runsQ sw l [s]:=by rw [List.take_length]
 rw [← hend]
 clear hend
 generalize hQ:(fun k=>Po.runsQ sw (l.take k) [s])=Q at *
 have hQ':∀ k,Po.runsQ sw (l.take k) [s]=Q k:=fun k=>by rw [← hQ]
 simp only [hQ'] at h0 hnxt ⊢
 clear hQ hQ'
 have hcopy:=fun (b1:Nat) (N:List Po.S)=>pQ b b1 L N hL
 have hs1:∀ q,q∈Po.add [] s↔q∈Q 0:=fun q=>by rw [Po.mem_add,h0];simp
 have hs2:(Po.add [] s).Nodup:=Po.add_nodup List.nodup_nil s
 clear h0
 rw [aY]
 unfold Po.noneP
 obtain ⟨a0,a,b',c,d⟩:=s
 simp only [pd_cs,Pd.T.k,Pd.T.f,Pd.T.v,Pd.T.l,Po.S.av,List.length_nil] at *
 refine aB Tryz.func33 rfl (by decide) ?_
 generalize hR:Po.runs sw=R at *
 clear hR
 repeat' first|((try intro K hK);((with_reducible refine df ?_);refine NMap.make fun b1=>?_;conv=>whnf))|((try intro K hK);((with_reducible refine df ?_);refine eV (j:=4) (L:=[]) hu rfl hkey rfl ?_;conv=>whnf))|(refine sxZ ?_;try clear hK K)|refine sxW ?_ ?_<;>intro _|(intro K hK _;conv=>whnf)|(intro _;conv=>whnf)
 refine aE (α:=Nat × List Po.S × Nat) (fun (i,N,b2)=>i≤l.length∧N.Nodup∧∀ q,q∈N↔q∈Q i) (fun (i,N,b2)=>[.k,.k,.k,.k,.k,.k,.k,.k,.k,.k,.k,.set (.raw (.map (some b2))),.k,.d,.d,.d,.k,.k,.k,.k,.k,.k,.k,.k,.k,.k,.k,.k,.k,.k,.k,.k,.k,.k,.k,.k,.k,.k,.k,.k,.k,.k,.k,.k,.k,.k,.k,.k,.k,.k,.k,.k,.k,.k,.k,.k,.k,.k,.k,.k,.k,.k,.k,.k,.k,.k,.k,.k,.k,.k,.k,.k,.k,.k,.k,.k,.k,.k,.k,.k,.k,.set (.int .i64 i),.d,.d,.d,.d,.d,.d,.d,.d,.d,.d,.d,.d,.d,.d,.d,.d,.d,.k,.k,.k]) (fun (i,N,b2)=>[.k,.k,.k,.k,.set (aa b2 (Po.sM N))]) (fun (i,N,b2)=>l.length - i) (0,Po.add [] ⟨a0,a,b',c,d⟩,b1) ⟨Nat.zero_le _,hs2,hs1⟩ ?_ ?_ ?_
 ·exact aD
 ·exact Qw.eq rfl
 (intro ⟨i,N,b2⟩ ⟨hi,hn,hm⟩;intro K hK;(conv=>whnf);refine hK _ _ ?_;clear hK K)
 dsimp only
 by_cases hlt:i<l.length
 ·have hx:l[i]?=some l[i]:=List.getElem?_eq_getElem hlt
  obtain ⟨pA,pcap,A,cap,hA,c0,c1,c2,c3,c4,c5,c6,c7⟩:=hrow.get hx
  have hAo:=hA.l.ok
  have hAp:=hA.p.ok
  have cc:=ih _ (List.mem_of_getElem? hx) _ _ hA
  have hnx:=hnxt i hlt
  clear ih hnxt hcopy
  generalize l[i]=y at *
  generalize hRy:R y=Ry at *
  clear hRy
  obtain ⟨yk,⟨ypk,ypf,ypv,ypl⟩,yf,yv,yl⟩:=y
  simp only [Po.cs,Po.T.k,Po.T.p,Po.T.f,Po.T.v,Po.T.l,Pd.T.k,Pd.T.f,Pd.T.v,Pd.T.l] at cc c0 c1 c2 c3 c4 c5 c6 c7 hAo hAp
  repeat' first|((try intro K hK);((with_reducible refine df ?_);refine NMap.make fun b3=>?_;conv=>whnf))|((try intro K hK);((with_reducible refine df ?_);refine eJ (N:=N) hu (bN.own (j:=4) rfl) fun c9=>?_;conv=>whnf))|(refine sxZ ?_;try clear hK K)|refine sxW ?_ ?_<;>intro _|(intro K hK _;conv=>whnf)|(intro _;conv=>whnf)
  refine aE (α:=Array Nat × List Po.S) (fun (seen,N2)=>N2.Nodup∧∀ q,q∈N2↔∃ t,Po.come N seen t∧q∈Ry t) (fun (seen,N2)=>[.k,.k,.k,.k,.k,.k,.k,.k,.k,.k,.k,.k,.k,.k,.k,.d,.k,.k,.k,.k,.k,.k,.k,.k,.k,.k,.k,.k,.k,.k,.k,.k,.k,.k,.k,.k,.k,.k,.k,.k,.k,.k,.k,.k,.k,.k,.k,.k,.k,.k,.k,.k,.k,.k,.k,.k,.k,.k,.k,.k,.k,.k,.k,.k,.k,.k,.k,.k,.k,.k,.k,.k,.k,.k,.k,.k,.k,.k,.k,.k,.k,.k,.k,.k,.k,.k,.k,.k,.d,.d,.d,.d,.d,.d,.d,.d,.d,.k,.k,.k,.k,.k]) (fun (seen,N2)=>[.k,.k,.k,.k,.k,.k,.set (aa b3 (Po.sM N2)),.set (itB c9 b2 N.length seen)]) (fun (seen,N2)=>Po.left N.length seen) (#[],[]) ⟨List.nodup_nil,fun q=>⟨fun h=>(List.not_mem_nil h).elim,fun ⟨t,h,_⟩=>absurd h Po.come_none⟩⟩ ?_ ?_ ?_
  ·exact aD
  ·exact Qw.eq rfl
  (intro ⟨seen,N2⟩ ⟨hn2,hm2⟩;intro K hK;(conv=>whnf);refine hK _ _ ?_;clear hK K)
  dsimp only
  repeat' first|((try intro K hK);(with_reducible refine gC ?_);(refine cN [0,6] (cc t9 b3 N2 hn2) ?_;rintro _ _ ⟨N3,hn3,hm3,rfl,rfl⟩;refine cR ?_))|((try intro K hK);((with_reducible refine df ?_);refine ep (N:=N) (j:=7) rfl (bN.own (j:=4) rfl) ?_ ?_<;>first | (intro i9 t9 hi9 hs9;conv=>whnf) | (intro hall9;conv=>whnf)))|((try intro K hK);((with_reducible refine df ?_);refine fq (N:=N) (j:=7) rfl (bN.own (j:=4) rfl) hi9 ?_;conv=>whnf))|(refine sxZ ?_;try clear hK K)|refine sxW ?_ ?_<;>intro _|(intro K hK _;conv=>whnf)|(intro _;conv=>whnf)
  ·refine aC (i+1,N2,b3) ⟨hlt,hn2,fun q=>?_⟩ (show l.length - (i+1)<l.length - i by omega) ?_ (Qw.pick [0,1,2,3,6] (by decide) rfl)
   ·rw [hm2,hnx]
    exact exists_congr fun t=>and_congr ((Po.come_all hall9).trans (hm t)) Iff.rfl
   ·exact aD
  ·refine aC (seen.push i9,N3) ⟨hn3,fun q=>?_⟩ (Po.left_push (List.getElem?_eq_some_iff.1 hi9).1 hs9) ?_ (Qw.pre 8 rfl)
   ·rw [hm3,hm2]
    constructor
    ·rintro (⟨t,h1,h2⟩ | h)
     ·exact ⟨t,(Po.come_push hi9).2 (.inl h1),h2⟩
     ·exact ⟨t9,(Po.come_push hi9).2 (.inr rfl),h⟩
    ·rintro ⟨t,h1,h2⟩
     rcases (Po.come_push hi9).1 h1 with h1 | rfl
     ·exact .inl ⟨t,h1,h2⟩
     ·exact .inr h2
   ·exact aD
 ·obtain rfl:i=l.length:=by omega
  have cc:=hcopy b2 N
  clear ih hnxt hcopy
  repeat' first|(intro K hK;(with_reducible refine gC ?_);(refine cN [1,4] cc ?_;rintro _ _ ⟨L2,hn2,hm2,rfl,rfl⟩;refine cR ?_))|(refine sxZ ?_;try clear hK K)|refine sxW ?_ ?_<;>intro _|(intro K hK _;conv=>whnf)
  all_goals exact ⟨L2,hn2,fun t=>by rw [hm2,hm],rfl,Qw.pre 2 rfl⟩
theorem l8:∀ (n:Nat) (F:Heap) (x:Po.T) (pu u:Value) (sw:Int),Po.tot x≤n→Po.tot x≤4611686018427387904→Po.fits x=true→Po.At F x pu u→∀ (s:Po.S) (b:Nat) (L:List Po.S),L.Nodup →
  Qz Tryz.prog 33 [.raw (.map (some b)),.agg (Po.cs x pu u),.int .i64 sw,.agg s.av] [hpB F,aa b (Po.sM L)] fun r m=>Po.doneR F b L (fun t=>t∈Po.runs sw x s) r m
 | 0,F,x,pu,u,sw,hn,_,_,_=>absurd (Po.tot_pos x) (by omega)
 | n+1,F,⟨k,p,f,v,l⟩,pu,u,sw,hn,hs,hf,hx=>fun s b L hL=>by
  have e2:=Po.tot_mk k p f v l
  obtain ⟨hsh,hfl⟩:=Po.fits_iff.1 hf
  have ih:∀ y∈l,∀ pw w,Po.At F y pw w→∀ (s:Po.S) (b:Nat) (L:List Po.S),L.Nodup→Qz Tryz.prog 33 [.raw (.map (some b)),.agg (Po.cs y pw w),.int .i64 sw,.agg s.av] [hpB F,aa b (Po.sM L)] fun r m=>Po.doneR F b L (fun t=>t∈Po.runs sw y s) r m :=
   fun y hy pw w hw=>l8 n F y pw w sw (by have:=Po.tot_lt (k:=k) (q:=p) (f:=f) (v:=v) hy;omega) (by have:=Po.tot_lt (k:=k) (q:=p) (f:=f) (v:=v) hy;omega) (hfl y hy) hw
  rcases hsh with ⟨rfl,hr,⟨rfl,rfl⟩,hl⟩ | ⟨rfl,rfl,hf1,hv1,hl⟩ | ⟨rfl | rfl,rfl,⟨rfl,rfl⟩,hl1,hl2⟩ | ⟨rfl,hr,⟨rfl,rfl⟩,hl⟩
  ·obtain rfl:=List.eq_nil_of_length_eq_zero hl
   exact p9 F p pu u sw (by omega) hx s b L hL
  ·obtain rfl:=List.eq_nil_of_length_eq_zero hl
   exact p8 F f v pu u sw hx s b L hL
  ·exact p7 F l pu u sw (by omega) hx s b L hL ih
  ·exact p6 F l pu u sw (by omega) hx s b L hL ih
  ·match l,hl with
   | [x,y],_=>exact run27_5 F p x y pu u sw (by omega) hx s b L hL ih
end Go.Proofs.YtmehinfgdcmmjaaGreatDoor
