import Derived.Test.YtaolcaggdddkpaaGreatJ10
import Derived.Shelf.SlSortCmp.WholeK
import Derived.Test.YtaolcaggdddkpaaGreatProg
import Derived.Sort.OwnSortedInts
namespace Go.Proofs.YtaolcaggdddkpaaGreat
open Go.Sx
set_option maxRecDepth 20000
set_option linter.unusedSimpArgs false
set_option linter.unusedVariables false
set_option maxHeartbeats 4000000
namespace Po
theorem part_row {F:Heap} {b:Nat} {x:S} (h:CellsF F ⟨b,0,.none⟩ 0 x.vs):IRow F (.slice (some ((⟨b,0,.none⟩:Addr).add 1)) 4 4) [x.p0,x.p1,x.p2,x.p3]:=by
 refine ⟨⟨some ((⟨b,0,.none⟩:Addr).add 1),4,rfl,Nat.le_refl _,fun e=>by cases e⟩,fun i y hy=>?_⟩
 obtain ⟨_,h1,h2,h3,h4,_⟩:=h
 refine ⟨[.int .i64 y],rfl,rfl,?_,trivial⟩
 match i,hy with
 | 0,hy=>cases hy;exact h1
 | 1,hy=>cases hy;exact h2
 | 2,hy=>cases hy;exact h3
 | 3,hy=>cases hy;exact h4
 | n+4,hy=>simp at hy
end Po
theorem order27_c (x y:Po.S):NCall Tryz.prog 46 [.agg x.av,.agg y.av] [hpB noHeap] fun r _=>r = .int .i64 (Po.cmpS x y):=by
 refine NCall.fits (K:=fun r m=>r = .int .i64 (Po.cmpS x y)) ?_ fun r m' h=>⟨r,_,rfl,MemFits.eq rfl,h⟩
 have c0:=compare27_c x.port y.port
 have k1:∀ b1 b2:Nat,NCall Tryz.prog 74 [.raw (.slice (some ((⟨b1,0,none⟩:Addr).add 1)) 4 4),.raw (.slice (some ((⟨b2,0,none⟩:Addr).add 1)) 4 4)] [hpB noHeap,⟨⟨b1,0,none⟩,x.av,.var 56⟩,⟨⟨b2,0,none⟩,y.av,.var 56⟩] fun r m=>r = .int .i64 (Po.cmpL [x.p0,x.p1,x.p2,x.p3] [y.p0,y.p1,y.p2,y.p3])∧m=[hpB noHeap,⟨⟨b1,0,none⟩,x.av,.var 56⟩,⟨⟨b2,0,none⟩,y.av,.var 56⟩]:=fun b1 b2 =>
  NCall.keep (cmpL_c (addF (addF noHeap ⟨b1,0,none⟩ (denL x.av)) ⟨b2,0,none⟩ (denL y.av)) (.slice (some ((⟨b1,0,none⟩:Addr).add 1)) 4 4) (.slice (some ((⟨b2,0,none⟩:Addr).add 1)) 4 4) [x.p0,x.p1,x.p2,x.p3] [y.p0,y.p1,y.p2,y.p3]
   (RowF.mono addF.old (fun _ _ h=>h) (Po.part_row addF.new)) (Po.part_row addF.new) rfl (by simp)) rfl (MemFits.freezeVar.trans MemFits.freezeVar) rfl fun r mL' h=>⟨r,rfl,h.1,rfl⟩
 rw [Po.cmpS_L]
 generalize Po.cmpL [x.p0,x.p1,x.p2,x.p3] [y.p0,y.p1,y.p2,y.p3]=c2 at *
 generalize Po.cmpI x.port y.port=c1 at *
 have co:∀ b:Nat,NCall Tryz.prog 72 [.sl 0 (.slice (some ⟨b,0,none⟩) 2 2) 2] [⟨⟨b,0,none⟩,[.int .i64 c1,.int .i64 c2],.row (.slice (some ⟨b,0,none⟩) 2 2) 3 1 2⟩] fun r m=>r = .int .i64 (if c1≠0 then c1 else c2)∧m=[⟨⟨b,0,none⟩,[.int .i64 c1,.int .i64 c2],.row (.slice (some ⟨b,0,none⟩) 2 2) 3 1 2⟩]:=fun b=>or27_c _ _ c1 c2
 refine ncall_of Tryz.func46 rfl (by decide) ?_
 obtain ⟨a0,a,b,c,d⟩:=x
 obtain ⟨a0',a',b',c',d'⟩:=y
 unfold Po.S.av at *
 simp only at *
 (repeat' (first|(with_reducible first|(refine hK _ _ ?_;clear hK K)|(refine hK _ ?_;clear hK K))|((with_reducible refine z25 ?_);intro K hK;(conv=>whnf))|(with_reducible refine z0 ?_)|((first|(with_reducible refine NN.a5 ?_)|((with_reducible refine NH.mk ?s ?_);case s=>(and_intros<;>first|((with_reducible refine gLen ?_);rfl)|((with_reducible refine gKept ?_);exact rfl)|omega|rfl))|((with_reducible refine NCall.isF 73 ?_);refine NCall.pureE (c0) ?_)|((with_reducible refine NCall.isF 74 ?_);refine NCall.subE [0,1,2] (k1 _ _) rfl (by decide) rfl rfl ?_)|((with_reducible refine NCall.isF 72 ?_);refine NCall.subE [3] (co _) rfl (by decide) rfl rfl ?_))<;>(conv=>whnf))|(with_reducible refine st_ordSout ?_)|((with_reducible refine gNOK ?_);(first|(refine st_ordK1 rfl (by kernel_rfl) rfl ?_;intro K hK;(conv=>whnf))|refine st_ordK0 rfl (by kernel_rfl) ?_|refine st_ordKA rfl rfl (by kernel_rfl) (by intro h;cases h) ?_))|((with_reducible refine gNEK ?_);(first|(refine st_eachK ?_ ?_;(intro K hK;(conv=>whnf)))|exact st_eachK0))|((with_reducible refine gX ?_);(first|refine st_orderS [] rfl rfl (by kernel_rfl) _ rfl ?_|(with_reducible first|refine z3 ?_|refine z4 ?_|refine z8 ?_)))|(with_reducible first|refine z1 ?_|refine z2 ?_)|((with_reducible refine gR ?_);(refine z31 rfl ?_;intro K hK;(conv=>whnf)))|((with_reducible refine gF ?_);(refine z33 rfl ?_;intro K hK;(conv=>whnf)))|((intro _;skip)<;>(conv=>whnf))))
 all_goals rfl
theorem Fr.grow {w w':World} (h:Fr (fun _=>False) w w') (hd:w.drawn≤w'.drawn):∃ (q:Nat) (os:Array Obj),w'=Go.Sort.grow (w.drewN q) os:=by
 obtain ⟨hp,tp,dr,os,out⟩:=w
 obtain ⟨hp',tp',dr',os',out'⟩:=w'
 obtain ⟨h1,h2,h3,h4,h5⟩:=h
 simp only at h1 h2 h3 h4 h5 hd
 subst h1 h2 h3
 refine ⟨dr' - dr,hp'.extract hp.size hp'.size,?_⟩
 have e:hp++hp'.extract hp.size hp'.size=hp':=by
  apply Array.ext
  ·simp;omega
  ·intro i hi hj
   by_cases hlt:i<hp.size
   ·rw [Array.getElem_append_left hlt]
    have:=h5 i hlt (fun h=>h)
    rw [Array.getElem?_eq_getElem hj,Array.getElem?_eq_getElem hlt] at this
    injection this with this
    exact this.symm
   ·rw [Array.getElem_append_right (by omega)]
    simp only [Array.getElem_extract]
    congr 1
    omega
 unfold Go.Sort.grow World.drewN
 simp only [World.mk.injEq]
 exact ⟨e.symm,trivial,by omega,trivial,trivial⟩
theorem memOk_none (W:World):MemOk [hpB noHeap] W:=⟨fun k hk=>by
 rw [List.mem_singleton] at hk
 subst hk
 exact ⟨rfl,fun a u h=>h.elim,fun b o h=>h.elim⟩,by simp⟩
theorem order27_x (x y:Po.S) (W:World):Calls Tryz.prog 46 #[.agg x.vs.toArray,.agg y.vs.toArray] W fun e w'=>e = .returned (.int .i64 (Po.cmpS x y))∧∃ (q:Nat) (os:Array Obj),w'=Go.Sort.grow (W.drewN q) os:=by
 have h:=(NCall_iff.1 (order27_c x y)).2 W (memOk_none W)
 have h:=Calls_up h fun e w' ⟨r,m',_,he,_⟩=>⟨_,he⟩
 refine h.mono fun e w' ⟨⟨r,m',hr,he,_,hf,_⟩,hd⟩=>?_
 subst hr
 refine ⟨he,Fr.grow ⟨hf.os,hf.tape,hf.output,hf.size,fun k hk _=>hf.block k hk fun ⟨k',h1,h2,_⟩=>?_⟩ hd⟩
 rw [List.mem_singleton] at h1
 subst h1
 cases h2
end Go.Proofs.YtaolcaggdddkpaaGreat
namespace Go.Proofs
open Go.Shelf
def Tryz.sortSent_ren:Go.Shelf.Ren:=⟨fun | 6=>41 | 15=>71 | 14=>70 | 28=>105 | 29=>106 | 20=>97 | 21=>98 | 22=>99 | 23=>100 | 24=>101 | 25=>102 | 26=>103 | 27=>104 | 46=>132 | 47=>133 | 48=>134 | 49=>135 | 50=>136 | 57=>149 | n=>n,fun | 22=>51 | 24=>56 | 25=>85 | 3=>3 | 39=>111 | 0=>0 | 53=>140 | 55=>142 | 4=>4 | 46=>133 | 45=>132 | 50=>137 | 5=>5 | 9=>9 | 66=>160 | 70=>164 | 76=>171 | 77=>172 | n=>n,fun | n=>n⟩
theorem Tryz.sortSent:Go.Proofs.SlLaysF0.n6 Tryz.prog Tryz.sortSent_ren:={
 mixed:=by kernel_rfl
 f6:=⟨Tryz.f41.name,by decide,Tryz.func41.trans (congrArg some (by kernel_rfl))⟩
 f14:=⟨Tryz.f70.name,by decide,Tryz.func70.trans (congrArg some (by kernel_rfl))⟩
 f15:=Tryz.func71.trans (congrArg some (by kernel_rfl))
 f20:=⟨Tryz.f97.name,by decide,Tryz.func97.trans (congrArg some (by kernel_rfl))⟩
 f21:=⟨Tryz.f98.name,by decide,Tryz.func98.trans (congrArg some (by kernel_rfl))⟩
 f22:=⟨Tryz.f99.name,by decide,Tryz.func99.trans (congrArg some (by kernel_rfl))⟩
 f23:=⟨Tryz.f100.name,by decide,Tryz.func100.trans (congrArg some (by kernel_rfl))⟩
 f24:=⟨Tryz.f101.name,by decide,Tryz.func101.trans (congrArg some (by kernel_rfl))⟩
 f25:=⟨Tryz.f102.name,by decide,Tryz.func102.trans (congrArg some (by kernel_rfl))⟩
 f26:=⟨Tryz.f103.name,by decide,Tryz.func103.trans (congrArg some (by kernel_rfl))⟩
 f27:=⟨Tryz.f104.name,by decide,Tryz.func104.trans (congrArg some (by kernel_rfl))⟩
 f28:=Tryz.func105.trans (congrArg some (by kernel_rfl))
 f29:=Tryz.func106.trans (congrArg some (by kernel_rfl))
 f46:=⟨Tryz.f132.name,by decide,Tryz.func132.trans (congrArg some (by kernel_rfl))⟩
 f47:=Tryz.func133.trans (congrArg some (by kernel_rfl))
 f48:=Tryz.func134.trans (congrArg some (by kernel_rfl))
 f49:=⟨Tryz.f135.name,by decide,Tryz.func135.trans (congrArg some (by kernel_rfl))⟩
 f50:=⟨Tryz.f136.name,by decide,Tryz.func136.trans (congrArg some (by kernel_rfl))⟩
 f57:=⟨Tryz.f149.name,by decide,Tryz.func149.trans (congrArg some (by kernel_rfl))⟩
 t0:=Tryz.underlying0
 a0:=Tryz.isAgg0
 z0:=Tryz.sizeOf0
 v0:=Tryz.zeroValue0
 t3:=Tryz.underlying3
 a3:=Tryz.isAgg3
 z3:=Tryz.sizeOf3
 v3:=Tryz.zeroValue3
 t4:=Tryz.underlying4
 a4:=Tryz.isAgg4
 z4:=Tryz.sizeOf4
 v4:=Tryz.zeroValue4
 t5:=Tryz.underlying5
 a5:=Tryz.isAgg5
 z5:=Tryz.sizeOf5
 v5:=Tryz.zeroValue5
 t9:=Tryz.underlying9
 a9:=Tryz.isAgg9
 z9:=Tryz.sizeOf9
 v9:=Tryz.zeroValue9
 t22:=Tryz.underlying51
 a22:=Tryz.isAgg51
 z22:=Tryz.sizeOf51
 v22:=Tryz.zeroValue51
 t25:=Tryz.underlying85
 a25:=Tryz.isAgg85
 z25:=Tryz.sizeOf85
 v25:=Tryz.zeroValue85
 t39:=Tryz.underlying111
 a39:=Tryz.isAgg111
 z39:=Tryz.sizeOf111
 v39:=Tryz.zeroValue111
 t45:=Tryz.underlying132
 a45:=Tryz.isAgg132
 z45:=Tryz.sizeOf132
 v45:=Tryz.zeroValue132
 t46:=Tryz.underlying133
 a46:=Tryz.isAgg133
 z46:=Tryz.sizeOf133
 v46:=Tryz.zeroValue133
 t50:=Tryz.underlying137
 a50:=Tryz.isAgg137
 z50:=Tryz.sizeOf137
 v50:=Tryz.zeroValue137
 t53:=Tryz.underlying140
 a53:=Tryz.isAgg140
 z53:=Tryz.sizeOf140
 v53:=Tryz.zeroValue140
 t55:=Tryz.underlying142
 a55:=Tryz.isAgg142
 z55:=Tryz.sizeOf142
 v55:=Tryz.zeroValue142
 t66:=Tryz.underlying160
 a66:=Tryz.isAgg160
 z66:=Tryz.sizeOf160
 v66:=Tryz.zeroValue160
 t70:=Tryz.underlying164
 a70:=Tryz.isAgg164
 z70:=Tryz.sizeOf164
 v70:=Tryz.zeroValue164
 t76:=Tryz.underlying171
 a76:=Tryz.isAgg171
 z76:=Tryz.sizeOf171
 v76:=Tryz.zeroValue171
 t77:=Tryz.underlying172
 a77:=Tryz.isAgg172
 z77:=Tryz.sizeOf172
 v77:=Tryz.zeroValue172 }
end Go.Proofs
namespace Go.Proofs.YtaolcaggdddkpaaGreat
open Go.Sx
set_option maxRecDepth 20000
set_option maxHeartbeats 4000000
set_option linter.unusedVariables false
section
open Go.Sort Go.Proofs Go.RowKit
theorem holds_of_blockV {w:World} {g:Nat} {cur:Array Value} {e:TypeId} {ss:List Value} (hb:w.heap[g]?=some (.cells cur e (0,0))) (ht:cur.toList.take ss.length=ss):Holds id w g 0 ss.toArray:=by
 intro j hj
 have hj':j<ss.length:=by simpa using hj
 refine ⟨?_,by simp [World.frozen?,hb]⟩
 have h1:(cur.toList.take ss.length)[j]?=ss[j]?:=by rw [ht]
 rw [List.getElem?_take_of_lt hj'] at h1
 simp only [World.cell?,hb,Nat.zero_add]
 simp only [Option.isSome_none,Bool.false_eq_true,if_false]
 rw [← Array.getElem?_toList,h1]
 simp [hj']
theorem heap_sortedV {w:World} {g n:Nat} {os:Array Obj} {cur:Array Value} {e:TypeId} {fr:Nat × Nat} (d:Array Value) (hb:w.heap[g]?=some (.cells cur e fr)) :
  (grow (putRow id (Sort.ahead w n) g 0 d) os).heap[g]?=some (.cells (putCells id 0 d cur) e fr):=by
 have hg:g<w.heap.size:=(Array.getElem?_eq_some_iff.1 hb).1
 rw [heap_grow_old _ _ (by simpa using hg)]
 simp [putRow,mapBlock,Sort.ahead,Array.getElem?_modify,hb,onCells]
theorem grownBy_sortedV {w:World} {g n:Nat} {os:Array Obj} (d:Array Value):w.grownBy (grow (putRow id (Sort.ahead w n) g 0 d) os) (some g):=by
 refine ⟨rfl,rfl,rfl,by simp,fun k hk hne=>?_⟩
 rw [heap_grow_old _ _ (by simpa using hk)]
 have:g≠k:=fun e=>hne (by rw [e])
 simp [putRow,mapBlock,Sort.ahead,Array.getElem?_modify,this]
theorem take_putCellsV (cur:Array Value) (ts:List Value) (h:ts.length≤cur.size):(putCells id 0 ts.toArray cur).toList.take ts.length=ts:=by
 apply List.ext_getElem?
 intro j
 by_cases hj:j<ts.length
 ·rw [List.getElem?_take_of_lt hj,Array.getElem?_toList]
  simp [putCells,hj,show j<cur.size by omega]
 ·rw [List.getElem?_take_eq_none (by omega),List.getElem?_eq_none (by omega)]
end
namespace Po
instance:Inhabited S:=⟨⟨0,0,0,0,0⟩⟩
def savs (L:List S):List AV:=L.flatMap S.av
theorem savs_den:∀ L:List S,denL (savs L)=L.flatMap S.vs
 | []=>rfl
 | s::L=>by
  have:=savs_den L
  unfold savs at *
  rw [List.flatMap_cons,List.flatMap_cons,denL_append,this]
  rfl
theorem savs_len (L:List S):(savs L).length=L.length*5:=by
 induction L with
 | nil=>rfl
 | cons s L ih=>unfold savs at *;rw [List.flatMap_cons,List.length_append,ih,List.length_cons];simp [S.av];omega
theorem savs_append (L M:List S):savs (L++M)=savs L++savs M:=by unfold savs;rw [List.flatMap_append]
theorem vs_len (s:S):s.vs.length=5:=rfl
theorem flat_at:∀ (L:List S) (i j:Nat),i<L.length→j<5→(L.flatMap S.vs)[i*5+j]?=(L.getD i default).vs[j]?
 | [],i,j,hi,_=>by simp at hi
 | s::L,0,j,_,hj=>by
  rw [List.flatMap_cons,List.getElem?_append_left (by rw [vs_len];omega)]
  simp
 | s::L,i+1,j,hi,hj=>by
  rw [List.flatMap_cons,List.getElem?_append_right (by rw [vs_len];omega),vs_len,show (i+1)*5+j - 5=i*5+j by omega,flat_at L i j (by simpa using hi) hj]
  simp
theorem flat_len (L:List S):(L.flatMap S.vs).length=L.length*5:=by
 rw [← savs_den,denL_length,savs_len]
theorem flatK_eq (L:List S):Go.Sort.flatK S.vs 5 L.toArray=(L.flatMap S.vs).toArray:=by
 apply Array.ext
 ·rw [Go.Sort.size_flatK];simp only [List.size_toArray,flat_len]
 ·intro t h1 h2
  rw [Go.Sort.size_flatK,List.size_toArray] at h1
  have e:=Go.Sort.get_flatK S.vs 5 L.toArray t (by simpa using h1)
  rw [getElem!_pos _ t (by rw [Go.Sort.size_flatK,List.size_toArray];exact h1)] at e
  rw [e]
  have hi:t / 5<L.length:=by omega
  have hj:t % 5<5:=by omega
  have h3:=flat_at L (t / 5) (t % 5) hi hj
  rw [show t / 5*5+t % 5=t by omega] at h3
  have h4:(L.flatMap S.vs)[t]?=some ((L.flatMap S.vs)[t]'(by simpa using h2)):=List.getElem?_eq_getElem _
  rw [h4,List.getD_eq_getElem?_getD,List.getElem?_eq_getElem hi,Option.getD_some,List.getElem?_eq_getElem (by rw [vs_len];exact hj)] at h3
  injection h3 with h3
  rw [List.getElem_toArray,h3]
  have h5:L.toArray[t / 5]! = L[t / 5]:=by rw [getElem!_pos _ _ (by simpa using hi)];simp
  rw [h5,getElem!_pos _ _ (by rw [vs_len];exact hj)]
end Po
end Go.Proofs.YtaolcaggdddkpaaGreat
