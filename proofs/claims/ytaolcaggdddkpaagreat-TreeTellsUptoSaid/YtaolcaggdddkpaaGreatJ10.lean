import Derived.Test.YtaolcaggdddkpaaGreatJ6
import Derived.Test.YtaolcaggdddkpaaGreatJ3
import Derived.Test.YtaolcaggdddkpaaGreatJ9
namespace Go.Proofs.YtaolcaggdddkpaaGreat
open Go.Sx
set_option maxRecDepth 20000
set_option linter.unusedSimpArgs false
set_option linter.unusedVariables false
set_option maxHeartbeats 4000000
namespace Po
def sM (L:List S):List (Value × Value):=L.map fun t=>(t.key,.agg #[])
def add (L:List S) (s:S):List S:=if s∈L then L else L++[s]
def okS (v:Value):Prop:=∃ l:List Int,l.length=5∧v=intsV l
theorem S.key_ok (s:S):okS s.key:=⟨[s.port,s.p0,s.p1,s.p2,s.p3],rfl,rfl⟩
theorem sM_ok {L:List S}:∀ q∈sM L,okS q.1:=fun q hq=>by
 obtain ⟨x,_,rfl⟩:=List.mem_map.1 hq
 exact x.key_ok
theorem sM_no {L:List S} {s:S} (h:s ∉ L):∀ q∈sM L,q.1≠s.key:=fun q hq e=>by
 obtain ⟨y,hy,rfl⟩:=List.mem_map.1 hq
 exact h (S.key_inj e ▸ hy)
theorem sM_at {L:List S} {s:S} (h:s∈L):∃ i,FirstIs (sM L) s.key (some (i,.agg #[]))∧(sM L).set i (s.key,.agg #[])=sM L:=by
 induction L with
 | nil=>cases h
 | cons x L ih =>
  by_cases hx:x=s
  ·subst hx
   exact ⟨0,⟨rfl,fun j q hj _=>absurd hj (Nat.not_lt_zero _)⟩,rfl⟩
  ·obtain ⟨i,⟨h1,h2⟩,h3⟩:=ih ((List.mem_cons.1 h).resolve_left fun e=>hx e.symm)
   refine ⟨i+1,⟨by simpa [sM] using h1,fun j q hj hq=>?_⟩,by simp only [sM,List.map_cons,List.set_cons_succ];congr 1⟩
   cases j with
   | zero =>
    simp only [sM,List.map_cons,List.getElem?_cons_zero,Option.some.injEq] at hq
    subst hq
    exact fun e=>hx (S.key_inj e)
   | succ j=>exact h2 j q (by omega) (by simpa [sM] using hq)
theorem add_nodup {L:List S} (h:L.Nodup) (s:S):(add L s).Nodup:=by
 unfold add
 split
 ·exact h
 ·rename_i hn
  rw [List.nodup_append]
  refine ⟨h,by simp,fun a ha b hb e=>?_⟩
  rw [List.mem_singleton.1 hb] at e
  exact hn (e ▸ ha)
theorem mem_add {L:List S} {s t:S}:t∈add L s↔t∈L∨t=s:=by
 unfold add
 split
 ·rename_i h
  exact ⟨.inl,fun e=>e.elim id fun e=>e ▸ h⟩
 ·simp
end Po
theorem sentT:KeyT Tryz.prog 56 Po.okS:=KeyT.ints (by kernel_rfl) (by kernel_rfl) (by kernel_rfl)
section
variable {t:TypeId} {m:List Blk} {K:AV→List Blk→Prop} {b j:Nat} {L:List Po.S}
theorem sent_upd {s:Po.S} {k v:AV} (hu:Tryz.prog.underlying t=some (.map 56 92)) (hj:m[j]?=some (mapB b (Po.sM L))) (hk:k.den=s.key) (hv:v.den = .agg #[]) (hK:setBlkK m j (mapB b (Po.sM (Po.add L s))) (K (.raw undef))) :
  NMap Tryz.prog (do Instr.mapUpdate t (AV.raw (Value.map (some b))).den k.den v.den;pure undef) m K:=by
 rw [hk,hv,show (AV.raw (Value.map (some b))).den = .map (some b) by rw [AV.den]]
 by_cases hs:s∈L
 ·obtain ⟨i,h1,h2⟩:=Po.sM_at hs
  refine NMap.upd_old hu sentT hj Po.sM_ok s.key_ok h1 ?_
  rw [h2]
  rw [show Po.add L s=L from if_pos hs] at hK
  exact hK
 ·refine NMap.upd_new hu sentT hj Po.sM_ok s.key_ok (Po.sM_no hs) ?_
  rw [show Po.add L s=L++[s] from if_neg hs] at hK
  unfold Po.sM at hK ⊢
  rw [List.map_append] at hK
  exact hK
end
def Po.doneR (F:Heap) (b:Nat) (L:List Po.S) (R:Po.S→Prop) (r:AV) (m:List Blk):Prop:=∃ L':List Po.S,L'.Nodup∧(∀ t,t∈L'↔t∈L∨R t)∧r = .tup []∧m=[hpB F,mapB b (Po.sM L')]
theorem run27_1 (F:Heap) (p:Pd.T) (pu u:Value) (sw:Int) (hs:Pd.size p≤4611686018427387904) (hx:Po.At F (.mk 1 p 0 0 []) pu u) (s:Po.S) (b:Nat) (L:List Po.S) (hL:L.Nodup) :
  NCall Tryz.prog 43 [.raw (.map (some b)),.agg (Po.cs (.mk 1 p 0 0 []) pu u),.int .i64 sw,.agg s.av] [hpB F,mapB b (Po.sM L)] fun r m=>Po.doneR F b L (fun t=>t∈Po.runs sw (.mk 1 p 0 0 []) s) r m:=by
 refine NCall.fits (K:=fun r m=>∃ L':List Po.S,L'.Nodup∧(∀ t,t∈L'↔t∈L∨t∈Po.runs sw (.mk 1 p 0 0 []) s)∧r = .tup []∧MemFits m [hpB F,mapB b (Po.sM L')]) ?_ fun r m' ⟨L',h1,h2,h3,h4⟩=>⟨r,_,rfl,h4,L',h1,h2,h3,rfl⟩
 have hok:=hx.l.ok
 have hpok:=hx.p.ok
 have ch:=Hits26_c F (s.at_ sw) p pu hs hx.p
 have hr:=Po.runs_mk sw 1 p 0 0 [] s
 rw [if_pos rfl] at hr
 have hu:Tryz.prog.underlying 86=some (.map 56 92):=by kernel_rfl
 have hadd:=Po.add_nodup hL s
 have hmem:=fun t=>Po.mem_add (L:=L) (s:=s) (t:=t)
 rw [hr]
 clear hr hx
 rw [po_cs]
 generalize Pd.hits (s.at_ sw) p=hb at *
 obtain ⟨pk,pf,pv,pl⟩:=p
 have hkey:(AV.agg s.av).den=s.key:=rfl
 obtain ⟨a0,a,b',c,d⟩:=s
 simp only [pd_cs,Pd.T.k,Pd.T.f,Pd.T.v,Pd.T.l,Po.S.av,Po.S.at_,Pd.At.pk] at *
 refine ncall_of Tryz.func43 rfl (by decide) ?_
 cases hb with
 | false =>
  (repeat' (first|(with_reducible first|(refine hK _ _ ?_;clear hK K)|(refine hA ?_;clear hA hB A B)|(refine hB ?_;clear hA hB A B)|(refine hK _ ?_;clear hK K))|((with_reducible refine z25 ?_);intro K hK;(conv=>whnf))|(with_reducible refine z0 ?_)|((first|((with_reducible refine NIf.decY ?s ?_);case s=>with_reducible rfl)|((with_reducible refine NIf.no ?s ?_);case s=>rfl)|(with_reducible refine NN.a5 ?_)|((with_reducible refine NH.mk ?s ?_);case s=>(and_intros<;>with_reducible rfl))|((with_reducible refine NCall.isF 75 ?_);refine NCall.subE [0] (ch) rfl (by decide) rfl rfl ?_))<;>(conv=>whnf))|(with_reducible first|refine z3 ?_|refine z4 ?_|refine z5 ?_|refine z6 ?_)|((with_reducible refine z29 ?_);intro A B hA hB;(conv=>whnf))|(with_reducible first|refine z1 ?_|refine z2 ?_|refine z9 ?_)|((with_reducible refine gR ?_);(refine z32 rfl ?_;intro K hK;(conv=>whnf)))|((with_reducible refine gF ?_);(refine z33 rfl ?_;intro K hK;(conv=>whnf)))|((intro _;skip)<;>(conv=>whnf))))
  all_goals exact ⟨L,hL,fun t=>by simp,rfl,MemFits.pre 2 rfl⟩
 | true =>
  (repeat' (first|(with_reducible first|(refine hK _ _ ?_;clear hK K)|(refine hA ?_;clear hA hB A B)|(refine hK _ ?_;clear hK K))|((with_reducible refine z25 ?_);intro K hK;(conv=>whnf))|(with_reducible refine z0 ?_)|((first|((with_reducible refine NIf.decY ?s ?_);case s=>with_reducible rfl)|((with_reducible refine NIf.yes ?s ?_);case s=>rfl)|(with_reducible refine NN.a5 ?_)|((with_reducible refine NH.mk ?s ?_);case s=>(and_intros<;>with_reducible rfl))|((with_reducible refine NCall.isF 75 ?_);refine NCall.subE [0] (ch) rfl (by decide) rfl rfl ?_))<;>(conv=>whnf))|((with_reducible refine gMap ?_);refine sent_upd (j:=1) hu rfl hkey rfl ?_;conv=>whnf)|(with_reducible first|refine z3 ?_|refine z4 ?_|refine z5 ?_)|((with_reducible refine z29 ?_);intro A B hA hB;(conv=>whnf))|(with_reducible first|refine z1 ?_|refine z2 ?_|refine z9 ?_)|((with_reducible refine gR ?_);(refine z32 rfl ?_;intro K hK;(conv=>whnf)))|((with_reducible refine gF ?_);(refine z33 rfl ?_;intro K hK;(conv=>whnf)))|((intro _;skip)<;>(conv=>whnf))))
  all_goals exact ⟨_,hadd,fun t=>by rw [hmem];simp,rfl,MemFits.pre 2 rfl⟩
namespace Po
theorem sM_len (L:List S):(sM L).length=L.length:=by unfold sM;rw [List.length_map]
theorem sM_get {L:List S} {i:Nat} {t:S} (h:L[i]?=some t):(sM L)[i]?=some (t.key,.agg #[]):=by unfold sM;rw [List.getElem?_map,h];rfl
def left (n:Nat) (seen:Array Nat):Nat:=((List.range n).filter fun i=>!seen.contains i).length
theorem left_push {n i:Nat} {seen:Array Nat} (h:i<n) (hs:seen.contains i=false):left n (seen.push i)<left n seen:=by
 unfold left
 have e:∀ j,(seen.push i).contains j=(seen.contains j||decide (j=i)):=fun j=>by
  rw [Bool.eq_iff_iff]
  simp [Array.contains_iff_mem,Array.mem_push]
 have hsub:((List.range n).filter fun j=>!(seen.push i).contains j)=((List.range n).filter fun j=>!seen.contains j).filter fun j=>!decide (j=i):=by
  rw [List.filter_filter]
  apply List.filter_congr
  intro j _
  rw [e]
  cases seen.contains j<;>simp
 rw [hsub]
 have hmem:i∈(List.range n).filter fun j=>!seen.contains j:=List.mem_filter.2 ⟨List.mem_range.2 h,by rw [hs];rfl⟩
 generalize (List.range n).filter (fun j=>!seen.contains j)=l at *
 clear hsub e
 induction l with
 | nil=>cases hmem
 | cons a l ih =>
  rw [List.filter_cons]
  by_cases ha:a=i
  ·subst ha
   simp only [decide_true,Bool.not_true,Bool.false_eq_true,if_false]
   have:=List.length_filter_le (fun j=>!decide (j=a)) l
   rw [List.length_cons]
   omega
  ·rw [if_pos (by simp [ha])]
   have:=ih ((List.mem_cons.1 hmem).resolve_left fun e=>ha e.symm)
   simp only [List.length_cons]
   omega
def come (N:List S) (seen:Array Nat) (t:S):Prop:=∃ i∈seen,N[i]?=some t
theorem come_push {N:List S} {seen:Array Nat} {i:Nat} {s t:S} (h:N[i]?=some s):come N (seen.push i) t↔come N seen t∨t=s:=by
 unfold come
 constructor
 ·rintro ⟨j,hj,ht⟩
  rcases Array.mem_push.1 hj with hj | rfl
  ·exact .inl ⟨j,hj,ht⟩
  ·rw [h] at ht;injection ht with ht;exact .inr ht.symm
 ·rintro (⟨j,hj,ht⟩ | rfl)
  ·exact ⟨j,Array.mem_push.2 (.inl hj),ht⟩
  ·exact ⟨i,Array.mem_push.2 (.inr rfl),h⟩
theorem come_all {N:List S} {seen:Array Nat} (h:∀ i,i<N.length→seen.contains i=true) {t:S}:come N seen t↔t∈N:=by
 unfold come
 constructor
 ·rintro ⟨i,_,ht⟩;exact List.mem_of_getElem? ht
 ·intro ht
  obtain ⟨i,hi,rfl⟩:=List.getElem_of_mem ht
  exact ⟨i,Array.contains_iff_mem.1 (h i hi),List.getElem?_eq_getElem hi⟩
theorem come_none {N:List S} {t:S}:¬ come N #[] t:=fun ⟨i,hi,_⟩=>by simp at hi
end Po
section
variable {t:TypeId} {m:List Blk} {K:AV→List Blk→Prop} {b c j:Nat} {N:List Po.S} {seen:Array Nat}
theorem ptr_den (c:Nat):(AV.raw (Value.pointer (some ⟨c,0,none⟩))).den = .pointer (some ⟨c,0,none⟩):=by rw [AV.den]
theorem sent_range (hu:Tryz.prog.underlying t=some (.map 56 92)) (hb:MapIn m b (Po.sM N)) (hK:∀ c,appK m (itB c b N.length #[]) (K (.raw (.pointer (some ⟨c,0,none⟩))))) :
  NMap Tryz.prog (Instr.range t (AV.raw (Value.map (some b))).den) m K:=by
 rw [show (AV.raw (Value.map (some b))).den = .map (some b) by rw [AV.den]]
 refine NMap.range hu hb fun c=>?_
 rw [Po.sM_len]
 exact hK c
theorem sent_next (hj:m[j]?=some (itB c b N.length seen)) (hb:MapIn m b (Po.sM N)) (h0:(∀ i,i<N.length→seen.contains i=true)→K (.tup [.bool false]) m)
  (h1:∀ (i:Nat) (t:Po.S),N[i]?=some t→seen.contains i=false→setBlkK m j (itB c b N.length (seen.push i)) (K (.tup [.bool true,.agg t.av,.agg []]))) :
  NMap Tryz.prog (Instr.next (AV.raw (Value.pointer (some ⟨c,0,none⟩))).den false 0) m K:=by
 rw [ptr_den]
 have hj':m[j]?=some (itB c b (Po.sM N).length seen):=by rw [Po.sM_len];exact hj
 refine NMap.next hj' hb (fun h=>h0 fun i hi=>h i (by rw [Po.sM_len];exact hi)) fun i k v hi hs=>?_
 have hlt:i<N.length:=by have:=(List.getElem?_eq_some_iff.1 hi).1;rw [Po.sM_len] at this;exact this
 have hN:N[i]?=some N[i]:=List.getElem?_eq_getElem hlt
 rw [Po.sM_get hN] at hi
 injection hi with hi
 injection hi with hk hv
 subst hk hv
 refine ⟨.agg N[i].av,.agg [],rfl,rfl,?_⟩
 rw [Po.sM_len]
 exact h1 i _ hN hs
theorem sent_now {i:Nat} {s:Po.S} (hj:m[j]?=some (itB c b N.length (seen.push i))) (hb:MapIn m b (Po.sM N)) (hi:N[i]?=some s) (hK:K (.tup [.agg s.av,.agg []]) m) :
  NMap Tryz.prog (Instr.entry (AV.raw (Value.pointer (some ⟨c,0,none⟩))).den) m K:=by
 rw [ptr_den]
 have hj':m[j]?=some (itB c b (Po.sM N).length (seen.push i)):=by rw [Po.sM_len];exact hj
 exact NMap.now hj' hb (Po.sM_get hi) (x:=.agg s.av) (y:=.agg []) rfl rfl hK
end
theorem copy27_c (b b1:Nat) (L N:List Po.S) (hL:L.Nodup) :
  NCall Tryz.prog 77 [.raw (.map (some b)),.raw (.map (some b1))] [mapB b (Po.sM L),mapB b1 (Po.sM N)] fun r m=>∃ L':List Po.S,L'.Nodup∧(∀ t,t∈L'↔t∈L∨t∈N)∧r = .tup []∧m=[mapB b (Po.sM L'),mapB b1 (Po.sM N)]:=by
 refine NCall.fits (K:=fun r m=>∃ L':List Po.S,L'.Nodup∧(∀ t,t∈L'↔t∈L∨t∈N)∧r = .tup []∧MemFits m [mapB b (Po.sM L'),mapB b1 (Po.sM N)]) ?_ fun r m' ⟨L',h1,h2,h3,h4⟩=>⟨r,_,rfl,h4,L',h1,h2,h3,rfl⟩
 have hu:Tryz.prog.underlying 86=some (.map 56 92):=by kernel_rfl
 refine ncall_of Tryz.func77 rfl (by decide) ?_
 (repeat' (first|(with_reducible first|(refine hK _ _ ?_;clear hK K)|(refine hK _ ?_;clear hK K))|((with_reducible refine z25 ?_);intro K hK;(conv=>whnf))|(with_reducible refine z0 ?_)|((with_reducible refine gMap ?_);refine sent_range (N:=N) hu (MapIn.own (j:=1) rfl) fun c=>?_;conv=>whnf)|(with_reducible first|refine z3 ?_|refine z4 ?_|refine z5 ?_|refine z1 ?_|refine z2 ?_)|((with_reducible refine gF ?_);(refine z33 rfl ?_;intro K hK;(conv=>whnf)))))
 refine st_auto (α:=Array Nat × List Po.S) (fun (seen,L')=>L'.Nodup∧∀ t,t∈L'↔t∈L∨Po.come N seen t) (fun (seen,L')=>[.keep,.keep,.keep,.keep,.drop,.drop,.keep,.keep,.drop,.drop,.drop,.drop,.drop,.drop,.drop,.drop]) (fun (seen,L')=>[.set (mapB b (Po.sM L')),.keep,.set (itB c b1 N.length seen)]) (fun (seen,L')=>Po.left N.length seen) (#[],L) ⟨hL,fun t=>⟨.inl,fun h=>h.elim id fun h=>absurd h Po.come_none⟩⟩ ?_ (MemFits.eq rfl) ?_
 ·repeat (first|exact FitsSl.nil|refine FitsSl.any ?_|refine FitsSl.cons (Fit1.same (by intro h;cases h) (by with_reducible rfl)) ?_)
 (intro ⟨seen,L'⟩ ⟨hn,hm⟩;intro K hK;(conv=>whnf);refine hK _ _ ?_;clear hK K)
 dsimp only
 (repeat' (first|(with_reducible first|(refine hK _ _ ?_;clear hK K)|(refine hA ?_;clear hA hB A B)|(refine hB ?_;clear hA hB A B)|(refine hK _ ?_;clear hK K))|((with_reducible refine gO ?_);(first|((with_reducible refine z25 ?_);intro K hK;(conv=>whnf))|(with_reducible refine z0 ?_)))|((first|((with_reducible refine gI ?_);(first|((with_reducible refine NIf.yes ?s ?_);case s=>rfl)|((with_reducible refine NIf.no ?s ?_);case s=>rfl)))|((with_reducible refine gH ?_);((with_reducible refine NH.mk ?s ?_);case s=>(and_intros<;>first|with_reducible rfl|((with_reducible refine gOnes ?_);rfl)|((with_reducible refine gLen ?_);rfl)))))<;>(conv=>whnf))|((with_reducible refine gMap ?_);refine sent_next (N:=N) (j:=2) rfl (MapIn.own (j:=1) rfl) ?_ ?_<;>first | (intro i9 t9 hi9 hs9;conv=>whnf) | (intro hall9;conv=>whnf))|((with_reducible refine gMap ?_);refine sent_now (N:=N) (j:=2) rfl (MapIn.own (j:=1) rfl) hi9 ?_;conv=>whnf)|((with_reducible refine gMap ?_);refine sent_upd (j:=0) (s:=t9) hu rfl rfl rfl ?_;conv=>whnf)|((with_reducible refine gX ?_);(first|(with_reducible first|refine z3 ?_|refine z4 ?_|refine z5 ?_|refine z6 ?_|refine z7 ?_)|((with_reducible refine z29 ?_);intro A B hA hB;(conv=>whnf))))|(with_reducible first|refine z1 ?_|refine z2 ?_|refine z9 ?_|refine z10 ?_|refine z11 ?_|refine z19 ?_)|((with_reducible refine gR ?_);((refine z32 rfl ?_);intro K hK;(conv=>whnf)))|((intro _;skip)<;>(conv=>whnf))))
 ·exact ⟨L',hn,fun t=>by rw [hm,Po.come_all hall9],rfl,MemFits.pre 2 rfl⟩
 ·refine st_round (seen.push i9,Po.add L' t9) ⟨Po.add_nodup hn t9,fun t=>by rw [Po.mem_add,hm,Po.come_push hi9,or_assoc]⟩ (Po.left_push (List.getElem?_eq_some_iff.1 hi9).1 hs9) ?_ (MemFits.pre 3 rfl)
  repeat (first|exact FitsSl.nil|refine FitsSl.any ?_|refine FitsSl.cons (Fit1.same (by intro h;cases h) (by with_reducible rfl)) ?_)
namespace Po
abbrev IRow (F:Heap) (v:Value) (l:List Int):Prop:=RowF F 1 (fun x us=>us=[.int .i64 x]) v l
theorem IRow.at1 {F:Heap} {v:Value} {l:List Int} (h:IRow F v l) {i:Nat} {x:Int} (hx:l[i]?=some x):F.c ((addrOf v).add i) (.int .i64 x):=by
 obtain ⟨us,rfl,_,h2⟩:=h.at_ i x hx
 rw [Nat.mul_one] at h2
 exact h2.1
def cmpL:List Int→List Int→Int
 | x::a,y::b=>if cmpI x y≠0 then cmpI x y else cmpL a b
 | _,_=>0
theorem cmpL_nil (b:List Int):cmpL [] b=0:=by cases b<;>rfl
theorem cmpL_drop {a b:List Int} {i:Nat} {x y:Int} (hx:a[i]?=some x) (hy:b[i]?=some y):cmpL (a.drop i) (b.drop i)=if cmpI x y≠0 then cmpI x y else cmpL (a.drop (i+1)) (b.drop (i+1)):=by
 obtain ⟨h1,rfl⟩:=List.getElem?_eq_some_iff.1 hx
 obtain ⟨h2,rfl⟩:=List.getElem?_eq_some_iff.1 hy
 rw [List.drop_eq_getElem_cons h1,List.drop_eq_getElem_cons h2,cmpL]
theorem cmpS_L (x y:S):cmpS x y=if cmpI x.port y.port≠0 then cmpI x.port y.port else cmpL [x.p0,x.p1,x.p2,x.p3] [y.p0,y.p1,y.p2,y.p3]:=by
 unfold cmpS
 simp only [cmpL]
 repeat' split
 all_goals first | rfl | omega
end Po
theorem cmpL_c (F:Heap) (v w:Value) (a b:List Int) (hv:Po.IRow F v a) (hw:Po.IRow F w b) (hl:a.length=b.length) (hn:a.length≤1000) :
  NCall Tryz.prog 74 [.hs v a.length,.hs w b.length] [hpB F] fun r m=>r = .int .i64 (Po.cmpL a b)∧m=[hpB F]:=by
 refine NCall.fits (K:=fun r m=>r = .int .i64 (Po.cmpL a b)∧MemFits m [hpB F]) ?_ fun r m' h=>⟨r,_,rfl,h.2,h.1,rfl⟩
 have hok:=hv.ok
 have hok2:=hw.ok
 refine ncall_of Tryz.func74 rfl (by decide) ?_
 (repeat' (first|(with_reducible first|(refine hK _ _ ?_;clear hK K)|(refine hK _ ?_;clear hK K))|((with_reducible refine z25 ?_);intro K hK;(conv=>whnf))|(with_reducible refine z0 ?_)|(((with_reducible refine NH.mk ?s ?_);case s=>(and_intros<;>omega))<;>(conv=>whnf))|(with_reducible first|refine z3 ?_|refine z4 ?_|refine z5 ?_|refine z1 ?_|refine z2 ?_)|((with_reducible refine gF ?_);(refine z33 rfl ?_;intro K hK;(conv=>whnf)))))
 refine st_auto (α:=Nat) (fun i=>i≤a.length∧Po.cmpL a b=Po.cmpL (a.drop i) (b.drop i)) (fun i=>[.keep,.keep,.keep,.keep,.set (.int .i64 0),.drop,.drop,.drop,.drop,.keep,.keep,.set (.int .i64 i),.drop,.drop,.drop,.drop,.drop,.drop,.drop,.drop,.drop,.drop,.drop,.drop,.drop,.drop,.drop,.drop,.drop,.drop,.drop,.keep,.keep,.keep,.keep,.keep]) (fun _=>[]) (fun i=>a.length - i) 0 ⟨Nat.zero_le _,rfl⟩ ?_ (MemFits.eq rfl) ?_
 ·repeat (first|exact FitsSl.nil|refine FitsSl.any ?_|refine FitsSl.cons (Fit1.int (by first | rfl | omega)) ?_|refine FitsSl.cons (Fit1.same (by intro h;cases h) (by with_reducible rfl)) ?_)
 (intro i ⟨hi,he⟩;intro K hK;(conv=>whnf);refine hK _ _ ?_;clear hK K)
 by_cases hlt:i<a.length
 ·have hx:a[i]?=some a[i]:=List.getElem?_eq_getElem hlt
  have hy:b[i]?=some (b[i]'(by omega)):=List.getElem?_eq_getElem (by omega)
  have c0:=hv.at1 hx
  have c1:=hw.at1 hy
  rw [Po.cmpL_drop hx hy] at he
  generalize a[i]=x at *
  generalize (b[i]'(by omega))=y at *
  have cc:=compare27_c x y
  generalize Po.cmpI x y=c at *
  by_cases hc:c=0
  ·rw [if_neg (by omega)] at he
   (repeat' (first|(with_reducible first|(refine hK _ _ ?_;clear hK K)|(refine hA ?_;clear hA hB A B)|(refine hB ?_;clear hA hB A B))|((with_reducible refine z25 ?_);intro K hK;(conv=>whnf))|(with_reducible refine z0 ?_)|((first|((with_reducible refine NV.i64 ?s ?_);case s=>omega)|with_reducible refine NIf.not_ ?_|((with_reducible refine NIf.decY ?s ?_);case s=>first|assumption|omega)|((with_reducible refine NIf.decN ?s ?_);case s=>omega)|(with_reducible first|refine NN.cast ?_|refine NN.a2 ?_)|((with_reducible refine NH.mk ?s ?_);case s=>(and_intros<;>omega))|((with_reducible refine NCall.isF 73 ?_);refine NCall.pureE (cc) ?_)|(with_reducible refine NLd.of (by with_reducible assumption) ?_))<;>(conv=>whnf))|(with_reducible first|refine z3 ?_|refine z4 ?_|refine z5 ?_|refine z6 ?_)|((with_reducible refine z29 ?_);intro A B hA hB;(conv=>whnf))|(with_reducible first|refine z1 ?_|refine z2 ?_|refine z9 ?_)))
   all_goals first | (exfalso;omega) | skip
   all_goals
    refine st_round (i+1) ⟨hlt,he⟩ (by omega) ?_ (MemFits.pre 1 rfl)
    repeat (first|exact FitsSl.nil|refine FitsSl.any ?_|refine FitsSl.cons (Fit1.int (by first | rfl | omega)) ?_|refine FitsSl.cons (Fit1.same (by intro h;cases h) (by with_reducible rfl)) ?_)
  ·rw [if_pos hc] at he
   rw [he]
   (repeat' (first|(with_reducible first|(refine hK _ _ ?_;clear hK K)|(refine hA ?_;clear hA hB A B)|(refine hB ?_;clear hA hB A B)|(refine hK _ ?_;clear hK K))|((with_reducible refine z25 ?_);intro K hK;(conv=>whnf))|(with_reducible refine z0 ?_)|((first|with_reducible refine NIf.not_ ?_|((with_reducible refine NIf.decY ?s ?_);case s=>omega)|((with_reducible refine NIf.decN ?s ?_);case s=>first|assumption|omega)|(with_reducible first|refine NN.cast ?_|refine NN.a2 ?_)|((with_reducible refine NH.mk ?s ?_);case s=>(and_intros<;>omega))|((with_reducible refine NCall.isF 73 ?_);refine NCall.pureE (cc) ?_)|(with_reducible refine NLd.of (by with_reducible assumption) ?_))<;>(conv=>whnf))|(with_reducible first|refine z3 ?_|refine z4 ?_|refine z5 ?_|refine z6 ?_|refine z8 ?_)|((with_reducible refine z29 ?_);intro A B hA hB;(conv=>whnf))|(with_reducible first|refine z1 ?_|refine z2 ?_|refine z12 ?_|refine z13 ?_|refine z20 ?_)|((with_reducible refine gR ?_);(refine z31 rfl ?_;intro K hK;(conv=>whnf)))))
   all_goals first | (exfalso;omega) | exact ⟨rfl,MemFits.pre 1 rfl⟩
 ·obtain rfl:i=a.length:=by omega
  rw [List.drop_length,Po.cmpL_nil] at he
  rw [he]
  (repeat' (first|(with_reducible first|(refine hK _ _ ?_;clear hK K)|(refine hB ?_;clear hA hB A B)|(refine hK _ ?_;clear hK K))|((with_reducible refine z25 ?_);intro K hK;(conv=>whnf))|(with_reducible refine z0 ?_)|((first|((with_reducible refine NIf.decN ?s ?_);case s=>omega)|((with_reducible refine NH.mk ?s ?_);case s=>(and_intros<;>omega)))<;>(conv=>whnf))|(with_reducible first|refine z3 ?_|refine z4 ?_|refine z6 ?_|refine z7 ?_|refine z8 ?_)|((with_reducible refine z29 ?_);intro A B hA hB;(conv=>whnf))|(with_reducible first|refine z1 ?_|refine z2 ?_|refine z10 ?_|refine z11 ?_|refine z19 ?_)|((with_reducible refine gR ?_);(refine z31 rfl ?_;intro K hK;(conv=>whnf)))))
  all_goals first | (exfalso;omega) | exact ⟨rfl,MemFits.pre 1 rfl⟩
theorem or27_c (t:TypeId) (v:Value) (a b:Int):NCall Tryz.prog 72 [.sl 0 v 2] [⟨addrOf v,[.int .i64 a,.int .i64 b],.row v t 1 2⟩] fun r m=>r = .int .i64 (if a≠0 then a else b)∧m=[⟨addrOf v,[.int .i64 a,.int .i64 b],.row v t 1 2⟩]:=by
 refine ncall_of Tryz.func72 rfl (by decide) ?_
 by_cases ha:a=0
 ·rw [if_neg (by omega)]
  by_cases hb:b=0
  ·(repeat' (first|(with_reducible first|(refine hK _ _ ?_;clear hK K)|(refine hA ?_;clear hA hB A B)|(refine hB ?_;clear hA hB A B)|(refine hK _ ?_;clear hK K))|((with_reducible refine z25 ?_);intro K hK;(conv=>whnf))|(with_reducible refine z0 ?_)|((first|((with_reducible refine NV.i64 ?s ?_);case s=>omega)|with_reducible refine NIf.not_ ?_|((with_reducible refine NIf.decY ?s ?_);case s=>first|assumption|omega)|((with_reducible refine NIf.decN ?s ?_);case s=>omega)|(with_reducible first|refine NN.lit ?_|refine NN.a2 ?_|refine NN.keep ?_)|((with_reducible refine NH.mk ?s ?_);case s=>(and_intros<;>first|with_reducible rfl|omega)))<;>(conv=>whnf))|(with_reducible first|refine st_rounds 4 ?_|refine z3 ?_|refine z4 ?_|refine z5 ?_|refine z6 ?_|refine z7 ?_|refine z8 ?_)|((with_reducible refine z29 ?_);intro A B hA hB;(conv=>whnf))|(with_reducible first|refine z1 ?_|refine z2 ?_|refine z9 ?_|refine z10 ?_|refine z11 ?_|refine z21 ?_|refine z22 ?_)|((with_reducible refine gR ?_);(refine z31 rfl ?_;intro K hK;(conv=>whnf)))|((with_reducible refine gF ?_);(refine z33 rfl ?_;intro K hK;(conv=>whnf)))))
   all_goals first | (exfalso;omega) | exact ⟨by rw [hb],rfl⟩
  ·(repeat' (first|(with_reducible first|(refine hK _ _ ?_;clear hK K)|(refine hA ?_;clear hA hB A B)|(refine hB ?_;clear hA hB A B)|(refine hK _ ?_;clear hK K))|((with_reducible refine z25 ?_);intro K hK;(conv=>whnf))|(with_reducible refine z0 ?_)|((first|((with_reducible refine NV.i64 ?s ?_);case s=>omega)|with_reducible refine NIf.not_ ?_|((with_reducible refine NIf.decY ?s ?_);case s=>first|assumption|omega)|((with_reducible refine NIf.decN ?s ?_);case s=>assumption)|(with_reducible first|refine NN.lit ?_|refine NN.a2 ?_|refine NN.keep ?_)|((with_reducible refine NH.mk ?s ?_);case s=>(and_intros<;>first|with_reducible rfl|omega)))<;>(conv=>whnf))|(with_reducible first|refine st_rounds 4 ?_|refine z3 ?_|refine z4 ?_|refine z5 ?_|refine z6 ?_|refine z8 ?_)|((with_reducible refine z29 ?_);intro A B hA hB;(conv=>whnf))|(with_reducible first|refine z1 ?_|refine z2 ?_|refine z9 ?_|refine z12 ?_|refine z13 ?_|refine z21 ?_|refine z23 ?_)|((with_reducible refine gR ?_);(refine z31 rfl ?_;intro K hK;(conv=>whnf)))|((with_reducible refine gF ?_);(refine z33 rfl ?_;intro K hK;(conv=>whnf)))))
   all_goals first | (exfalso;omega) | exact ⟨rfl,rfl⟩
 ·rw [if_pos ha]
  (repeat' (first|(with_reducible first|(refine hK _ _ ?_;clear hK K)|(refine hA ?_;clear hA hB A B)|(refine hK _ ?_;clear hK K))|((with_reducible refine z25 ?_);intro K hK;(conv=>whnf))|(with_reducible refine z0 ?_)|((first|with_reducible refine NIf.not_ ?_|((with_reducible refine NIf.decY ?s ?_);case s=>omega)|((with_reducible refine NIf.decN ?s ?_);case s=>assumption)|(with_reducible first|refine NN.lit ?_|refine NN.a2 ?_)|((with_reducible refine NH.mk ?s ?_);case s=>(and_intros<;>first|with_reducible rfl|omega)))<;>(conv=>whnf))|(with_reducible first|refine st_rounds 4 ?_|refine z3 ?_|refine z4 ?_|refine z5 ?_|refine z6 ?_|refine z8 ?_)|((with_reducible refine z29 ?_);intro A B hA hB;(conv=>whnf))|(with_reducible first|refine z1 ?_|refine z2 ?_|refine z12 ?_|refine z13 ?_|refine z23 ?_)|((with_reducible refine gR ?_);(refine z31 rfl ?_;intro K hK;(conv=>whnf)))|((with_reducible refine gF ?_);(refine z33 rfl ?_;intro K hK;(conv=>whnf)))))
  all_goals first | (exfalso;omega) | exact ⟨rfl,rfl⟩
end Go.Proofs.YtaolcaggdddkpaaGreat
