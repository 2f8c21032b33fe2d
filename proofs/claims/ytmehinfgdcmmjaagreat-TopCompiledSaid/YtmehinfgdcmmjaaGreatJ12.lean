import Derived.Test.YtmehinfgdcmmjaaGreatJ11
import Derived.Test.YtmehinfgdcmmjaaGreatJ9
import Derived.Shelf.SlSortCmp.WholeK
import Derived.Test.YtmehinfgdcmmjaaGreatProg
namespace Go.Proofs.YtmehinfgdcmmjaaGreat
open Go.Sx
set_option maxRecDepth 20000
set_option linter.unusedSimpArgs false
set_option linter.unusedVariables false
set_option maxHeartbeats 4000000
namespace Po
theorem sM_len (L:List S):(sM L).length=L.length:=by unfold sM;rw [List.length_map]
theorem sM_get {L:List S} {i:Nat} {t:S} (h:L[i]?=some t):(sM L)[i]?=some (t.key,.agg #[]):=by unfold sM;rw [List.getElem?_map,h];rfl
def left (n:Nat) (seen:Array Nat):Nat:=((List.range n).filter fun i=>!seen.contains i).length
theorem left_push {n i:Nat} {seen:Array Nat} (h:i<n) (hs:seen.contains i=false):left n (seen.push i)<left n seen:=by
 unfold left
 have e:∀ j,(seen.push i).contains j=(seen.contains j||decide (j=i)):=fun j=>by
  rw [Bool.eq_iff_iff]
  simp [Array.contains_iff_mem,Array.mem_push]
 have hsub:((List.range n).filter fun j=>!(seen.push i).contains j)=((List.range n).filter fun j=>!seen.contains j).filter fun j=>!decide (j=i):=by
  rw [List.filter_filter]
  apply List.filter_congr
  intro j _
  rw [e]
  cases seen.contains j<;>simp
 rw [hsub]
 have hmem:i∈(List.range n).filter fun j=>!seen.contains j:=List.mem_filter.2 ⟨List.mem_range.2 h,by rw [hs];rfl⟩
 generalize (List.range n).filter (fun j=>!seen.contains j)=l at *
 clear hsub e
 induction l with
 | nil=>cases hmem
 | cons a l ih =>
  rw [List.filter_cons]
  by_cases ha:a=i
  ·subst ha
   simp only [decide_true,Bool.not_true,Bool.false_eq_true,if_false]
   have:=List.length_filter_le (fun j=>!decide (j=a)) l
   rw [List.length_cons]
   omega
  ·rw [if_pos (by simp [ha])]
   have:=ih ((List.mem_cons.1 hmem).resolve_left fun e=>ha e.symm)
   simp only [List.length_cons]
   omega
def come (N:List S) (seen:Array Nat) (t:S):Prop:=∃ i∈seen,N[i]?=some t
theorem come_push {N:List S} {seen:Array Nat} {i:Nat} {s t:S} (h:N[i]?=some s):come N (seen.push i) t↔come N seen t∨t=s:=by
 unfold come
 constructor
 ·rintro ⟨j,hj,ht⟩
  rcases Array.mem_push.1 hj with hj | rfl
  ·exact .inl ⟨j,hj,ht⟩
  ·rw [h] at ht;injection ht with ht;exact .inr ht.symm
 ·rintro (⟨j,hj,ht⟩ | rfl)
  ·exact ⟨j,Array.mem_push.2 (.inl hj),ht⟩
  ·exact ⟨i,Array.mem_push.2 (.inr rfl),h⟩
theorem come_all {N:List S} {seen:Array Nat} (h:∀ i,i<N.length→seen.contains i=true) {t:S}:come N seen t↔t∈N:=by
 unfold come
 constructor
 ·rintro ⟨i,_,ht⟩;exact List.mem_of_getElem? ht
 ·intro ht
  obtain ⟨i,hi,rfl⟩:=List.getElem_of_mem ht
  exact ⟨i,Array.contains_iff_mem.1 (h i hi),List.getElem?_eq_getElem hi⟩
theorem come_none {N:List S} {t:S}:¬ come N #[] t:=fun ⟨i,hi,_⟩=>by simp at hi
end Po
section
variable {t:TypeId} {m:List Blk} {K:AV→List Blk→Prop} {b c j:Nat} {N:List Po.S} {seen:Array Nat}
theorem mW (c:Nat):(AV.raw (Value.pointer (some ⟨c,0,none⟩))).den = .pointer (some ⟨c,0,none⟩):=by rw [AV.den]
theorem eu (hu:Tryz.prog.underlying t=some (.map 48 238)) (hb:bW m b (Po.sM N)) (hK:∀ c,appK m (itB c b N.length #[]) (K (.raw (.pointer (some ⟨c,0,none⟩))))) :
  NMap Tryz.prog (Instr.range t (AV.raw (Value.map (some b))).den) m K:=by
 rw [show (AV.raw (Value.map (some b))).den = .map (some b) by rw [AV.den]]
 refine NMap.range hu hb fun c=>?_
 rw [Po.sM_len]
 exact hK c
theorem fP (hj:m[j]?=some (itB c b N.length seen)) (hb:bW m b (Po.sM N)) (h0:(∀ i,i<N.length→seen.contains i=true)→K (.tup [.bool false]) m)
  (h1:∀ (i:Nat) (t:Po.S),N[i]?=some t→seen.contains i=false→setBlkK m j (itB c b N.length (seen.push i)) (K (.tup [.bool true,.agg t.av,.agg []]))) :
  NMap Tryz.prog (Instr.next (AV.raw (Value.pointer (some ⟨c,0,none⟩))).den false 0) m K:=by
 rw [mW]
 have hj':m[j]?=some (itB c b (Po.sM N).length seen):=by rw [Po.sM_len];exact hj
 refine NMap.next hj' hb (fun h=>h0 fun i hi=>h i (by rw [Po.sM_len];exact hi)) fun i k v hi hs=>?_
 have hlt:i<N.length:=by have:=(List.getElem?_eq_some_iff.1 hi).1;rw [Po.sM_len] at this;exact this
 have hN:N[i]?=some N[i]:=List.getElem?_eq_getElem hlt
 rw [Po.sM_get hN] at hi
 injection hi with hi
 injection hi with hk hv
 subst hk hv
 refine ⟨.agg N[i].av,.agg [],rfl,rfl,?_⟩
 rw [Po.sM_len]
 exact h1 i _ hN hs
theorem gW {i:Nat} {s:Po.S} (hj:m[j]?=some (itB c b N.length (seen.push i))) (hb:bW m b (Po.sM N)) (hi:N[i]?=some s) (hK:K (.tup [.agg s.av,.agg []]) m) :
  NMap Tryz.prog (Instr.entry (AV.raw (Value.pointer (some ⟨c,0,none⟩))).den) m K:=by
 rw [mW]
 have hj':m[j]?=some (itB c b (Po.sM N).length (seen.push i)):=by rw [Po.sM_len];exact hj
 exact NMap.now hj' hb (Po.sM_get hi) (x:=.agg s.av) (y:=.agg []) rfl rfl hK
end
theorem pW (b b1:Nat) (L N:List Po.S) (hL:L.Nodup) :
  NCall Tryz.prog 194 [.raw (.map (some b)),.raw (.map (some b1))] [aa b (Po.sM L),aa b1 (Po.sM N)] fun r m=>∃ L':List Po.S,L'.Nodup∧(∀ t,t∈L'↔t∈L∨t∈N)∧r = .tup []∧m=[aa b (Po.sM L'),aa b1 (Po.sM N)]:=by
 refine NCall.fits (K:=fun r m=>∃ L':List Po.S,L'.Nodup∧(∀ t,t∈L'↔t∈L∨t∈N)∧r = .tup []∧MemFits m [aa b (Po.sM L'),aa b1 (Po.sM N)]) ?_ fun r m' ⟨L',h1,h2,h3,h4⟩=>⟨r,_,rfl,h4,L',h1,h2,h3,rfl⟩
 have hu:Tryz.prog.underlying 232=some (.map 48 238):=by kernel_rfl
 refine aA Tryz.func194 rfl (by decide) ?_
 repeat' first|((try intro K hK);((with_reducible refine eH ?_);refine eu (N:=N) hu (bW.own (j:=1) rfl) fun c=>?_;conv=>whnf))|(refine sxZ ?_;try clear hK K)|refine sxW ?_ ?_<;>intro _|(intro K hK _;conv=>whnf)|(intro _;conv=>whnf)
 refine aD (α:=Array Nat × List Po.S) (fun (seen,L')=>L'.Nodup∧∀ t,t∈L'↔t∈L∨Po.come N seen t) (fun (seen,L')=>[.k,.k,.k,.k,.d,.d,.k,.k,.d,.d,.d,.d,.d,.d,.d,.d]) (fun (seen,L')=>[.set (aa b (Po.sM L')),.k,.set (itB c b1 N.length seen)]) (fun (seen,L')=>Po.left N.length seen) (#[],L) ⟨hL,fun t=>⟨.inl,fun h=>h.elim id fun h=>absurd h Po.come_none⟩⟩ ?_ (MemFits.eq rfl) ?_
 ·exact aC
 (intro ⟨seen,L'⟩ ⟨hn,hm⟩;intro K hK;(conv=>whnf);refine hK _ _ ?_;clear hK K)
 dsimp only
 repeat' first|((try intro K hK);((with_reducible refine eH ?_);refine fP (N:=N) (j:=2) rfl (bW.own (j:=1) rfl) ?_ ?_<;>first | (intro i9 t9 hi9 hs9;conv=>whnf) | (intro hall9;conv=>whnf)))|((try intro K hK);((with_reducible refine eH ?_);refine gW (N:=N) (j:=2) rfl (bW.own (j:=1) rfl) hi9 ?_;conv=>whnf))|((try intro K hK);((with_reducible refine eH ?_);refine fF (j:=0) (s:=t9) hu rfl rfl rfl ?_;conv=>whnf))|(refine sxZ ?_;try clear hK K)|refine sxW ?_ ?_<;>intro _|(intro K hK _;conv=>whnf)|(intro _;conv=>whnf)
 ·exact ⟨L',hn,fun t=>by rw [hm,Po.come_all hall9],rfl,MemFits.pre 2 rfl⟩
 ·refine aB (seen.push i9,Po.add L' t9) ⟨Po.add_nodup hn t9,fun t=>by rw [Po.mem_add,hm,Po.come_push hi9,or_assoc]⟩ (Po.left_push (List.getElem?_eq_some_iff.1 hi9).1 hs9) ?_ (MemFits.pre 3 rfl)
  exact aC
namespace Po
abbrev IRow (F:Heap) (v:Value) (l:List Int):Prop:=aH F 1 (fun x us=>us=[.int .i64 x]) v l
theorem IRow.at1 {F:Heap} {v:Value} {l:List Int} (h:IRow F v l) {i:Nat} {x:Int} (hx:l[i]?=some x):F.c ((addrOf v).add i) (.int .i64 x):=by
 obtain ⟨us,rfl,_,h2⟩:=h.at_ i x hx
 rw [Nat.mul_one] at h2
 exact h2.1
def cmpL:List Int→List Int→Int
 | x::a,y::b=>if cmpI x y≠0 then cmpI x y else cmpL a b
 | _,_=>0
theorem cmpL_nil (b:List Int):cmpL [] b=0:=by cases b<;>rfl
theorem cmpL_drop {a b:List Int} {i:Nat} {x y:Int} (hx:a[i]?=some x) (hy:b[i]?=some y):cmpL (a.drop i) (b.drop i)=if cmpI x y≠0 then cmpI x y else cmpL (a.drop (i+1)) (b.drop (i+1)):=by
 obtain ⟨h1,rfl⟩:=List.getElem?_eq_some_iff.1 hx
 obtain ⟨h2,rfl⟩:=List.getElem?_eq_some_iff.1 hy
 rw [List.drop_eq_getElem_cons h1,List.drop_eq_getElem_cons h2,cmpL]
theorem cmpS_L (x y:S):cmpS x y=if cmpI x.port y.port≠0 then cmpI x.port y.port else cmpL [x.p0,x.p1,x.p2,x.p3] [y.p0,y.p1,y.p2,y.p3]:=by
 unfold cmpS
 simp only [cmpL]
 repeat' split
 all_goals first | rfl | omega
end Po
theorem pY (F:Heap) (v w:Value) (a b:List Int) (hv:Po.IRow F v a) (hw:Po.IRow F w b) (hl:a.length=b.length) (hn:a.length≤1000) :
  NCall Tryz.prog 184 [.hs v a.length,.hs w b.length] [hpB F] fun r m=>r = .int .i64 (Po.cmpL a b)∧m=[hpB F]:=by
 refine NCall.fits (K:=fun r m=>r = .int .i64 (Po.cmpL a b)∧MemFits m [hpB F]) ?_ fun r m' h=>⟨r,_,rfl,h.2,h.1,rfl⟩
 have hok:=hv.ok
 have hok2:=hw.ok
 refine aA Tryz.func184 rfl (by decide) ?_
 repeat' first|(refine sxZ ?_;try clear hK K)|refine sxW ?_ ?_<;>intro _|(intro K hK _;conv=>whnf)
 refine aD (α:=Nat) (fun i=>i≤a.length∧Po.cmpL a b=Po.cmpL (a.drop i) (b.drop i)) (fun i=>[.k,.k,.k,.k,.set (.int .i64 0),.d,.d,.d,.d,.k,.k,.set (.int .i64 i),.d,.d,.d,.d,.d,.d,.d,.d,.d,.d,.d,.d,.d,.d,.d,.d,.d,.d,.d,.k,.k,.k,.k,.k]) (fun _=>[]) (fun i=>a.length - i) 0 ⟨Nat.zero_le _,rfl⟩ ?_ (MemFits.eq rfl) ?_
 ·exact aC
 (intro i ⟨hi,he⟩;intro K hK;(conv=>whnf);refine hK _ _ ?_;clear hK K)
 by_cases hlt:i<a.length
 ·have hx:a[i]?=some a[i]:=List.getElem?_eq_getElem hlt
  have hy:b[i]?=some (b[i]'(by omega)):=List.getElem?_eq_getElem (by omega)
  have c0:=hv.at1 hx
  have c1:=hw.at1 hy
  rw [Po.cmpL_drop hx hy] at he
  generalize a[i]=x at *
  generalize (b[i]'(by omega))=y at *
  have cc:=eO x y
  generalize Po.cmpI x y=c at *
  by_cases hc:c=0
  ·rw [if_neg (by omega)] at he
   repeat' first|(intro K hK;(with_reducible refine gC ?_);refine cP cc ?_)|(refine sxZ ?_;try clear hK K)|refine sxW ?_ ?_<;>intro _|(intro K hK _;conv=>whnf)
   all_goals first | (exfalso;omega) | skip
   all_goals
    refine aB (i+1) ⟨hlt,he⟩ (by omega) ?_ (MemFits.pre 1 rfl)
    exact aC
  ·rw [if_pos hc] at he
   rw [he]
   repeat' first|(intro K hK;(with_reducible refine gC ?_);refine cP cc ?_)|(refine sxZ ?_;try clear hK K)|refine sxW ?_ ?_<;>intro _|(intro K hK _;conv=>whnf)
   all_goals first | (exfalso;omega) | exact ⟨rfl,MemFits.pre 1 rfl⟩
 ·obtain rfl:i=a.length:=by omega
  rw [List.drop_length,Po.cmpL_nil] at he
  rw [he]
  repeat' first|(refine sxZ ?_;try clear hK K)|refine sxW ?_ ?_<;>intro _|(intro K hK _;conv=>whnf)
  all_goals first | (exfalso;omega) | exact ⟨rfl,MemFits.pre 1 rfl⟩
theorem oq (t:TypeId) (v:Value) (a b:Int):NCall Tryz.prog 182 [.sl 0 v 2] [⟨addrOf v,[.int .i64 a,.int .i64 b],.row v t 1 2⟩] fun r m=>r = .int .i64 (if a≠0 then a else b)∧m=[⟨addrOf v,[.int .i64 a,.int .i64 b],.row v t 1 2⟩]:=by
 refine aA Tryz.func182 rfl (by decide) ?_
 by_cases ha:a=0
 ·rw [if_neg (by omega)]
  by_cases hb:b=0
  ·repeat' first|((with_reducible refine gX ?_);with_reducible refine bI 4 ?_)|(refine sxZ ?_;try clear hK K)|refine sxW ?_ ?_<;>intro _|(intro K hK _;conv=>whnf)
   all_goals first | (exfalso;omega) | exact ⟨by rw [hb],rfl⟩
  ·repeat' first|((with_reducible refine gX ?_);with_reducible refine bI 4 ?_)|(refine sxZ ?_;try clear hK K)|refine sxW ?_ ?_<;>intro _|(intro K hK _;conv=>whnf)
   all_goals first | (exfalso;omega) | exact ⟨rfl,rfl⟩
 ·rw [if_pos ha]
  repeat' first|((with_reducible refine gX ?_);with_reducible refine bI 4 ?_)|(refine sxZ ?_;try clear hK K)|refine sxW ?_ ?_<;>intro _|(intro K hK _;conv=>whnf)
  all_goals first | (exfalso;omega) | exact ⟨rfl,rfl⟩
namespace Po
theorem part_row {F:Heap} {b:Nat} {x:S} (h:CellsF F ⟨b,0,.none⟩ 0 x.vs):IRow F (.slice (some ((⟨b,0,.none⟩:Addr).add 1)) 4 4) [x.p0,x.p1,x.p2,x.p3]:=by
 refine ⟨⟨some ((⟨b,0,.none⟩:Addr).add 1),4,rfl,Nat.le_refl _,fun e=>by cases e⟩,fun i y hy=>?_⟩
 obtain ⟨_,h1,h2,h3,h4,_⟩:=h
 refine ⟨[.int .i64 y],rfl,rfl,?_,trivial⟩
 match i,hy with
 | 0,hy=>cases hy;exact h1
 | 1,hy=>cases hy;exact h2
 | 2,hy=>cases hy;exact h3
 | 3,hy=>cases hy;exact h4
 | n+4,hy=>simp at hy
end Po
theorem nT (x y:Po.S):NCall Tryz.prog 180 [.agg x.av,.agg y.av] [hpB noHeap] fun r _=>r = .int .i64 (Po.cmpS x y):=by
 refine NCall.fits (K:=fun r m=>r = .int .i64 (Po.cmpS x y)) ?_ fun r m' h=>⟨r,_,rfl,MemFits.eq rfl,h⟩
 have c0:=eO x.port y.port
 have k1:∀ b1 b2:Nat,NCall Tryz.prog 184 [.raw (.slice (some ((⟨b1,0,none⟩:Addr).add 1)) 4 4),.raw (.slice (some ((⟨b2,0,none⟩:Addr).add 1)) 4 4)] [hpB noHeap,⟨⟨b1,0,none⟩,x.av,.var 48⟩,⟨⟨b2,0,none⟩,y.av,.var 48⟩] fun r m=>r = .int .i64 (Po.cmpL [x.p0,x.p1,x.p2,x.p3] [y.p0,y.p1,y.p2,y.p3])∧m=[hpB noHeap,⟨⟨b1,0,none⟩,x.av,.var 48⟩,⟨⟨b2,0,none⟩,y.av,.var 48⟩]:=fun b1 b2 =>
  NCall.keep (pY (addF (addF noHeap ⟨b1,0,none⟩ (denL x.av)) ⟨b2,0,none⟩ (denL y.av)) (.slice (some ((⟨b1,0,none⟩:Addr).add 1)) 4 4) (.slice (some ((⟨b2,0,none⟩:Addr).add 1)) 4 4) [x.p0,x.p1,x.p2,x.p3] [y.p0,y.p1,y.p2,y.p3]
   (aH.mono addF.old (fun _ _ h=>h) (Po.part_row addF.new)) (Po.part_row addF.new) rfl (by simp)) rfl (MemFits.freezeVar.trans MemFits.freezeVar) rfl fun r mL' h=>⟨r,rfl,h.1,rfl⟩
 rw [Po.cmpS_L]
 generalize Po.cmpL [x.p0,x.p1,x.p2,x.p3] [y.p0,y.p1,y.p2,y.p3]=c2 at *
 generalize Po.cmpI x.port y.port=c1 at *
 have co:∀ b:Nat,NCall Tryz.prog 182 [.sl 0 (.slice (some ⟨b,0,none⟩) 2 2) 2] [⟨⟨b,0,none⟩,[.int .i64 c1,.int .i64 c2],.row (.slice (some ⟨b,0,none⟩) 2 2) 3 1 2⟩] fun r m=>r = .int .i64 (if c1≠0 then c1 else c2)∧m=[⟨⟨b,0,none⟩,[.int .i64 c1,.int .i64 c2],.row (.slice (some ⟨b,0,none⟩) 2 2) 3 1 2⟩]:=fun b=>oq _ _ c1 c2
 refine aA Tryz.func180 rfl (by decide) ?_
 obtain ⟨a0,a,b,c,d⟩:=x
 obtain ⟨a0',a',b',c',d'⟩:=y
 unfold Po.S.av at *
 simp only at *
 repeat' first|(intro K hK;(with_reducible refine gC ?_);first|refine cP c0 ?_|refine cS [0,1,2] (k1 _ _) ?_|refine cS [3] (co _) ?_)|(refine aV [] ?_;try clear hK K)|refine sxW ?_ ?_<;>intro _|refine aW ?_ ?_|(intro K hK _;conv=>whnf)
 all_goals rfl
theorem Fr.grow {w w':World} (h:Fr (fun _=>False) w w') (hd:w.drawn≤w'.drawn):∃ (q:Nat) (os:Array Obj),w'=Go.Sort.grow (w.drewN q) os:=by
 obtain ⟨hp,tp,dr,os,out⟩:=w
 obtain ⟨hp',tp',dr',os',out'⟩:=w'
 obtain ⟨h1,h2,h3,h4,h5⟩:=h
 simp only at h1 h2 h3 h4 h5 hd
 subst h1 h2 h3
 refine ⟨dr' - dr,hp'.extract hp.size hp'.size,?_⟩
 have e:hp++hp'.extract hp.size hp'.size=hp':=by
  apply Array.ext
  ·simp;omega
  ·intro i hi hj
   by_cases hlt:i<hp.size
   ·rw [Array.getElem_append_left hlt]
    have:=h5 i hlt (fun h=>h)
    rw [Array.getElem?_eq_getElem hj,Array.getElem?_eq_getElem hlt] at this
    injection this with this
    exact this.symm
   ·rw [Array.getElem_append_right (by omega)]
    simp only [Array.getElem_extract]
    congr 1
    omega
 unfold Go.Sort.grow World.drewN
 simp only [World.mk.injEq]
 exact ⟨e.symm,trivial,by omega,trivial,trivial⟩
theorem gl (W:World):MemOk [hpB noHeap] W:=⟨fun k hk=>by
 rw [List.mem_singleton] at hk
 subst hk
 exact ⟨rfl,fun a u h=>h.elim,fun b o h=>h.elim⟩,by simp⟩
theorem nS (x y:Po.S) (W:World):Calls Tryz.prog 180 #[.agg x.vs.toArray,.agg y.vs.toArray] W fun e w'=>e = .returned (.int .i64 (Po.cmpS x y))∧∃ (q:Nat) (os:Array Obj),w'=Go.Sort.grow (W.drewN q) os:=by
 have h:=(aM.1 (nT x y)).2 W (gl W)
 have h:=lI h fun e w' ⟨r,m',_,he,_⟩=>⟨_,he⟩
 refine h.mono fun e w' ⟨⟨r,m',hr,he,_,hf,_⟩,hd⟩=>?_
 subst hr
 refine ⟨he,Fr.grow ⟨hf.os,hf.tape,hf.output,hf.size,fun k hk _=>hf.block k hk fun ⟨k',h1,h2,_⟩=>?_⟩ hd⟩
 rw [List.mem_singleton] at h1
 subst h1
 cases h2
end Go.Proofs.YtmehinfgdcmmjaaGreat
namespace Go.Proofs
open Go.Shelf
def Tryz.sortSent_ren:Go.Shelf.Ren:=⟨fun | 6=>151 | 15=>108 | 14=>181 | 28=>145 | 29=>146 | 20=>197 | 21=>198 | 22=>199 | 23=>200 | 24=>201 | 25=>202 | 26=>203 | 27=>204 | 46=>207 | 47=>168 | 48=>169 | 49=>208 | 50=>209 | 57=>212 | n=>n,fun | 22=>43 | 24=>48 | 25=>216 | 3=>3 | 39=>178 | 0=>0 | 53=>208 | 55=>210 | 4=>4 | 46=>200 | 45=>199 | 50=>205 | 5=>5 | 9=>9 | 66=>224 | 70=>228 | 76=>243 | 77=>244 | n=>n,fun | n=>n⟩
theorem Tryz.sortSent:Go.Proofs.SlLaysF0.n6 Tryz.prog Tryz.sortSent_ren:={
 mixed:=by kernel_rfl
 f6:=⟨Tryz.f151.name,by decide,Tryz.func151.trans (congrArg some (by kernel_rfl))⟩
 f14:=⟨Tryz.f181.name,by decide,Tryz.func181.trans (congrArg some (by kernel_rfl))⟩
 f15:=Tryz.func108.trans (congrArg some (by kernel_rfl))
 f20:=⟨Tryz.f197.name,by decide,Tryz.func197.trans (congrArg some (by kernel_rfl))⟩
 f21:=⟨Tryz.f198.name,by decide,Tryz.func198.trans (congrArg some (by kernel_rfl))⟩
 f22:=⟨Tryz.f199.name,by decide,Tryz.func199.trans (congrArg some (by kernel_rfl))⟩
 f23:=⟨Tryz.f200.name,by decide,Tryz.func200.trans (congrArg some (by kernel_rfl))⟩
 f24:=⟨Tryz.f201.name,by decide,Tryz.func201.trans (congrArg some (by kernel_rfl))⟩
 f25:=⟨Tryz.f202.name,by decide,Tryz.func202.trans (congrArg some (by kernel_rfl))⟩
 f26:=⟨Tryz.f203.name,by decide,Tryz.func203.trans (congrArg some (by kernel_rfl))⟩
 f27:=⟨Tryz.f204.name,by decide,Tryz.func204.trans (congrArg some (by kernel_rfl))⟩
 f28:=Tryz.func145.trans (congrArg some (by kernel_rfl))
 f29:=Tryz.func146.trans (congrArg some (by kernel_rfl))
 f46:=⟨Tryz.f207.name,by decide,Tryz.func207.trans (congrArg some (by kernel_rfl))⟩
 f47:=Tryz.func168.trans (congrArg some (by kernel_rfl))
 f48:=Tryz.func169.trans (congrArg some (by kernel_rfl))
 f49:=⟨Tryz.f208.name,by decide,Tryz.func208.trans (congrArg some (by kernel_rfl))⟩
 f50:=⟨Tryz.f209.name,by decide,Tryz.func209.trans (congrArg some (by kernel_rfl))⟩
 f57:=⟨Tryz.f212.name,by decide,Tryz.func212.trans (congrArg some (by kernel_rfl))⟩
 t0:=Tryz.underlying0
 a0:=Tryz.isAgg0
 z0:=Tryz.sizeOf0
 v0:=Tryz.zeroValue0
 t3:=Tryz.underlying3
 a3:=Tryz.isAgg3
 z3:=Tryz.sizeOf3
 v3:=Tryz.zeroValue3
 t4:=Tryz.underlying4
 a4:=Tryz.isAgg4
 z4:=Tryz.sizeOf4
 v4:=Tryz.zeroValue4
 t5:=Tryz.underlying5
 a5:=Tryz.isAgg5
 z5:=Tryz.sizeOf5
 v5:=Tryz.zeroValue5
 t9:=Tryz.underlying9
 a9:=Tryz.isAgg9
 z9:=Tryz.sizeOf9
 v9:=Tryz.zeroValue9
 t22:=Tryz.underlying43
 a22:=Tryz.isAgg43
 z22:=Tryz.sizeOf43
 v22:=Tryz.zeroValue43
 t25:=Tryz.underlying216
 a25:=Tryz.isAgg216
 z25:=Tryz.sizeOf216
 v25:=Tryz.zeroValue216
 t39:=Tryz.underlying178
 a39:=Tryz.isAgg178
 z39:=Tryz.sizeOf178
 v39:=Tryz.zeroValue178
 t45:=Tryz.underlying199
 a45:=Tryz.isAgg199
 z45:=Tryz.sizeOf199
 v45:=Tryz.zeroValue199
 t46:=Tryz.underlying200
 a46:=Tryz.isAgg200
 z46:=Tryz.sizeOf200
 v46:=Tryz.zeroValue200
 t50:=Tryz.underlying205
 a50:=Tryz.isAgg205
 z50:=Tryz.sizeOf205
 v50:=Tryz.zeroValue205
 t53:=Tryz.underlying208
 a53:=Tryz.isAgg208
 z53:=Tryz.sizeOf208
 v53:=Tryz.zeroValue208
 t55:=Tryz.underlying210
 a55:=Tryz.isAgg210
 z55:=Tryz.sizeOf210
 v55:=Tryz.zeroValue210
 t66:=Tryz.underlying224
 a66:=Tryz.isAgg224
 z66:=Tryz.sizeOf224
 v66:=Tryz.zeroValue224
 t70:=Tryz.underlying228
 a70:=Tryz.isAgg228
 z70:=Tryz.sizeOf228
 v70:=Tryz.zeroValue228
 t76:=Tryz.underlying243
 a76:=Tryz.isAgg243
 z76:=Tryz.sizeOf243
 v76:=Tryz.zeroValue243
 t77:=Tryz.underlying244
 a77:=Tryz.isAgg244
 z77:=Tryz.sizeOf244
 v77:=Tryz.zeroValue244 }
end Go.Proofs
