import Derived.Shelf.Small.Bits
import Derived.Shelf.Small.Wraps
import Derived.Shelf.Strconv.Itoa0
import Derived.Shelf.Sort.Plain
import Derived.Ground.Names2Prog
import Derived.Shelf.Slices.CompactI
import Derived.Shelf.Slices.SearchI
import Derived.Shelf.Slices.Cells
import Derived.Shelf.Slices.In.SortNone
import Derived.Ground.SlgnProg
import Derived.Shelf.SlicesE.Compact
import Derived.Test.YtaolcaggdddkpaaGreatProg
import Derived.Sort.OwnSortedInts
import Derived.Test.YtaolcaggdddkpaaGreatSxC
import Derived.Test.YtaolcaggdddkpaaGreatJ2
import Derived.Test.YtaolcaggdddkpaaGreatJ5
namespace Go.Proofs
open Go.Shelf
def Tryz.lays189_ren:Go.Shelf.Ren:=⟨fun | 189=>56 | 125=>71 | 257=>88 | 128=>105 | 129=>106 | 294=>120 | 295=>121 | 296=>122 | 297=>123 | 298=>124 | 299=>125 | 216=>126 | 300=>127 | 301=>128 | 328=>145 | 329=>133 | 330=>134 | 331=>146 | 332=>147 | 215=>107 | 343=>154 | n=>n,fun | 28=>62 | 3=>3 | 46=>111 | 0=>0 | 51=>140 | 53=>142 | 4=>4 | 183=>133 | 182=>132 | 131=>137 | 5=>5 | 9=>9 | 218=>160 | 222=>164 | 228=>171 | 229=>172 | n=>n,fun | n=>n⟩
theorem Tryz.lays189:Go.Proofs.Lays.n189 Tryz.prog Tryz.lays189_ren:={
 mixed:=by kernel_rfl
 f125:=Tryz.func71.trans (congrArg some (by kernel_rfl))
 f128:=Tryz.func105.trans (congrArg some (by kernel_rfl))
 f129:=Tryz.func106.trans (congrArg some (by kernel_rfl))
 f189:=Tryz.func56.trans (congrArg some (by kernel_rfl))
 f215:=Tryz.func107.trans (congrArg some (by kernel_rfl))
 f216:=Tryz.func126.trans (congrArg some (by kernel_rfl))
 f257:=Tryz.func88.trans (congrArg some (by kernel_rfl))
 f294:=Tryz.func120.trans (congrArg some (by kernel_rfl))
 f295:=Tryz.func121.trans (congrArg some (by kernel_rfl))
 f296:=Tryz.func122.trans (congrArg some (by kernel_rfl))
 f297:=Tryz.func123.trans (congrArg some (by kernel_rfl))
 f298:=Tryz.func124.trans (congrArg some (by kernel_rfl))
 f299:=Tryz.func125.trans (congrArg some (by kernel_rfl))
 f300:=Tryz.func127.trans (congrArg some (by kernel_rfl))
 f301:=Tryz.func128.trans (congrArg some (by kernel_rfl))
 f328:=Tryz.func145.trans (congrArg some (by kernel_rfl))
 f329:=Tryz.func133.trans (congrArg some (by kernel_rfl))
 f330:=Tryz.func134.trans (congrArg some (by kernel_rfl))
 f331:=Tryz.func146.trans (congrArg some (by kernel_rfl))
 f332:=Tryz.func147.trans (congrArg some (by kernel_rfl))
 f343:=Tryz.func154.trans (congrArg some (by kernel_rfl))
 t0:=Tryz.underlying0
 a0:=Tryz.isAgg0
 z0:=Tryz.sizeOf0
 v0:=Tryz.zeroValue0
 t3:=Tryz.underlying3
 a3:=Tryz.isAgg3
 z3:=Tryz.sizeOf3
 v3:=Tryz.zeroValue3
 t4:=Tryz.underlying4
 a4:=Tryz.isAgg4
 z4:=Tryz.sizeOf4
 v4:=Tryz.zeroValue4
 t5:=Tryz.underlying5
 a5:=Tryz.isAgg5
 z5:=Tryz.sizeOf5
 v5:=Tryz.zeroValue5
 t9:=Tryz.underlying9
 a9:=Tryz.isAgg9
 z9:=Tryz.sizeOf9
 v9:=Tryz.zeroValue9
 t28:=Tryz.underlying62
 a28:=Tryz.isAgg62
 z28:=Tryz.sizeOf62
 v28:=Tryz.zeroValue62
 t46:=Tryz.underlying111
 a46:=Tryz.isAgg111
 z46:=Tryz.sizeOf111
 v46:=Tryz.zeroValue111
 t51:=Tryz.underlying140
 a51:=Tryz.isAgg140
 z51:=Tryz.sizeOf140
 v51:=Tryz.zeroValue140
 t53:=Tryz.underlying142
 a53:=Tryz.isAgg142
 z53:=Tryz.sizeOf142
 v53:=Tryz.zeroValue142
 t131:=Tryz.underlying137
 a131:=Tryz.isAgg137
 z131:=Tryz.sizeOf137
 v131:=Tryz.zeroValue137
 t182:=Tryz.underlying132
 a182:=Tryz.isAgg132
 z182:=Tryz.sizeOf132
 v182:=Tryz.zeroValue132
 t183:=Tryz.underlying133
 a183:=Tryz.isAgg133
 z183:=Tryz.sizeOf133
 v183:=Tryz.zeroValue133
 t218:=Tryz.underlying160
 a218:=Tryz.isAgg160
 z218:=Tryz.sizeOf160
 v218:=Tryz.zeroValue160
 t222:=Tryz.underlying164
 a222:=Tryz.isAgg164
 z222:=Tryz.sizeOf164
 v222:=Tryz.zeroValue164
 t228:=Tryz.underlying171
 a228:=Tryz.isAgg171
 z228:=Tryz.sizeOf171
 v228:=Tryz.zeroValue171
 t229:=Tryz.underlying172
 a229:=Tryz.isAgg172
 z229:=Tryz.sizeOf172
 v229:=Tryz.zeroValue172 }
open Go.Sort Go.RowKit in
theorem Tryz.slices_Sort_int (blk off cap:Nat) (zs:List Int) (w:World) (hH:Holds (Value.int .i64) w blk off zs.toArray) (hblk:blk<w.heap.size) (hsz:zs.length<4611686018427387904) :
  Calls Tryz.prog 56 #[.slice (some ⟨blk,off,none⟩) zs.length cap] w fun e w' =>
   e = .returned (.tuple #[])∧∃ n os,w'=grow (putRow (Value.int .i64) (Sort.ahead w n) blk off (zs.mergeSort fun x y=>decide (x≤y)).toArray) os:=Any.slices_Sort_int Tryz.lays189 blk off cap zs w hH hblk hsz
open Go.RowKit Go.Sort in
theorem Tryz.slices_Sort_int_none (p:Option Addr) (cap:Nat) (w:World) :
  Calls Tryz.prog 56 #[.slice p 0 cap] w fun e w'=>e = .returned (.tuple #[])∧w'=w:=Any.slices_Sort_int_none Tryz.lays189 p cap w
def Tryz.laysSlE43_f57_ren:Go.Shelf.Ren:=⟨fun | 43=>57 | n=>n,fun | 22=>62 | 23=>3 | 3=>3 | 4=>4 | 0=>0 | n=>n,fun | n=>n⟩
theorem Tryz.laysSlE43_f57:Go.Proofs.SlLaysE.n43 Tryz.prog Tryz.laysSlE43_f57_ren:={
 mixed:=by kernel_rfl
 f43:=⟨Tryz.f57.name,by decide,Tryz.func57.trans (congrArg some (by kernel_rfl))⟩
 t0:=Tryz.underlying0
 a0:=Tryz.isAgg0
 z0:=Tryz.sizeOf0
 v0:=Tryz.zeroValue0
 t3:=Tryz.underlying3
 a3:=Tryz.isAgg3
 z3:=Tryz.sizeOf3
 v3:=Tryz.zeroValue3
 t4:=Tryz.underlying4
 a4:=Tryz.isAgg4
 z4:=Tryz.sizeOf4
 v4:=Tryz.zeroValue4
 t22:=Tryz.underlying62
 a22:=Tryz.isAgg62
 z22:=Tryz.sizeOf62
 v22:=Tryz.zeroValue62
 a23:=Tryz.isAgg3
 z23:=Tryz.sizeOf3 }
open Go.RowKit Go.Lib Go.Sort in
theorem Tryz.slices_Compact {α:Type} [Inhabited α] [DecidableEq α] (enc:α→Value) (hO:OneCell enc) (heq:EqlAt Tryz.prog 3 enc (fun x y=>decide (x=y))) (hne:NeqAt Tryz.prog 3 enc (fun x y=>decide (x=y))) (zr:α) (v23:∀ w,(zeroValue 3).run Tryz.prog w = .ok (enc zr) w) (blk off cap:Nat) (d:Array α) (w:World) (hH:Holds enc w blk off d) (hsz:d.size≤9223372036854775807) (hcap:d.size≤cap) :
  Calls Tryz.prog 57 #[.slice (some ⟨blk,off,none⟩) d.size cap] w fun e w'=>e = .returned (.slice (some ⟨blk,off,none⟩) (compactUpTo d d.size).length cap)∧∃ q,w'=putRow enc (Sort.ahead w q) blk off (compactUpTo d d.size++List.replicate (d.size - (compactUpTo d d.size).length) zr).toArray:=AnyE.slices_Compact Tryz.laysSlE43_f57 enc hO heq hne zr v23 blk off cap d w hH hsz hcap
end Go.Proofs
namespace Go.Proofs.YtaolcaggdddkpaaGreat
open Go.Sx
set_option linter.unusedVariables false
set_option maxRecDepth 20000
set_option linter.unusedSimpArgs false
namespace Srt
def av (l:List Int):List AV:=l.map fun z=>.int .i64 z
def V (z:Int):List Value:=[.int .i64 z]
abbrev Row (F:Heap) (v:Value) (l:List Int):Prop:=RowF F 1 (fun x us=>us=V x) v l
theorem av_den:∀ l,denL (av l)=l.map (Value.int .i64)
 | []=>rfl
 | x::l=>by
  have:=av_den l
  unfold av at *
  rw [List.map_cons,denL,this]
  rfl
theorem av_flat (l:List Int):denL (av l)=l.flatMap V:=by
 rw [av_den]
 induction l with
 | nil=>rfl
 | cons x l ih=>rw [List.map_cons,ih];rfl
theorem av_len (l:List Int):(av l).length=l.length:=by unfold av;rw [List.length_map]
theorem av_append (a b:List Int):av (a++b)=av a++av b:=by unfold av;rw [List.map_append]
def sort (l:List Int):List Int:=l.mergeSort fun x y=>decide (x≤y)
theorem sort_len (l:List Int):(sort l).length=l.length:=List.length_mergeSort l
def cutTo (v:Value) (k:Nat):Value:=match v with | .slice a _ c=>.slice a k c | _=>v
end Srt
theorem sort_c (v:Value) (t:TypeId) (l:List Int) (hl:l.length<4611686018427387904) :
  NCall Tryz.prog 56 [.sl 0 v l.length] [⟨addrOf v,Srt.av l,.row v t 1 l.length⟩] fun r m=>r = .tup []∧m=[⟨addrOf v,Srt.av (Srt.sort l),.row v t 1 l.length⟩]:=by
 rw [NCall_iff]
 refine ⟨Go.Sx.enters_of Tryz.func56 rfl (by decide),fun w hm=>?_⟩
 obtain ⟨⟨h1,h2⟩,h3⟩:=hm.holds _ (List.mem_singleton.2 rfl)
 rcases h2 with ⟨rfl,hn⟩ | ⟨g,cap,cur,rfl,_,hg,hle,hcap,hsz,htk⟩
 ·have e:l=[]:=List.length_eq_zero_iff.1 hn
  subst e
  rw [show Srt.sort []=[] by unfold Srt.sort;simp]
  refine (Tryz.slices_Sort_int_none none 0 w).mono fun e w' ⟨he,hw⟩=>?_
  subst hw
  exact ⟨.tup [],_,⟨rfl,rfl⟩,he,hm,Fr.refl _ _,Fresh.self _ _⟩
 ·rw [Nat.mul_one,Srt.av_den] at htk
  have hlt:g<w.heap.size:=(Array.getElem?_eq_some_iff.1 hg).1
  refine (Tryz.slices_Sort_int g 0 cap l w (Go.holds_of_blockI hg htk) hlt hl).mono fun e w' ⟨he,n,os,hw⟩=>?_
  have hgr:=Go.grownBy_sortedI (w:=w) (g:=g) (n:=n) (os:=os) (Srt.sort l).toArray
  have hown:=Go.ownsRow_sortedI (w:=w) (base:=0) (n:=n) (e:=t) (os:=os) (ss:=l) (ts:=Srt.sort l) (Srt.sort_len l) (Nat.zero_le _) hg hle hcap hsz
  rw [← Srt.av_den] at hown
  have hw':w'=Go.Sort.grow (Go.Sort.putRow (Value.int .i64) (Go.Sort.ahead w n) g 0 (Srt.sort l).toArray) os:=hw
  rw [← hw'] at hgr hown
  have hfr:=Fr.grown hgr
  refine ⟨.tup [],_,⟨rfl,rfl⟩,he,?_,?_,?_⟩
  ·exact hm.set (i:=0) (k:=⟨addrOf (.slice (some ⟨g,0,none⟩) l.length cap),Srt.av (Srt.sort l),.row (.slice (some ⟨g,0,none⟩) l.length cap) t 1 l.length⟩) hfr.size rfl rfl
    (fun b hb hlt=>hfr.block b hlt fun e=>hb e) ⟨hown,rfl⟩ rfl (.inr (.inl rfl))
  ·exact ⟨hfr.os,hfr.tape,hfr.output,hfr.size,fun k hk hS=>hfr.block k hk fun e=>hS ⟨_,List.mem_singleton.2 rfl,rfl,e⟩⟩
  ·exact Fresh.set (i:=0) (Fresh.self _ _) (k:=⟨addrOf (.slice (some ⟨g,0,none⟩) l.length cap),Srt.av (Srt.sort l),.row (.slice (some ⟨g,0,none⟩) l.length cap) t 1 l.length⟩) rfl fun b hb=>.inl ⟨_,List.mem_singleton.2 rfl,rfl,hb⟩
namespace Srt
def comp (l:List Int):List Int:=Go.Lib.compact l
theorem comp_le (l:List Int):(comp l).length≤l.length:=by
 unfold comp Go.Lib.compact Go.Lib.compactUpTo
 rw [List.length_map]
 exact Nat.le_trans (List.length_filter_le _ _) (by simp)
def comped (l:List Int):List Int:=comp l++List.replicate (l.length - (comp l).length) 0
theorem comped_len (l:List Int):(comped l).length=l.length:=by
 have:=comp_le l
 unfold comped
 rw [List.length_append,List.length_replicate]
 omega
end Srt
theorem compact_nil (t:TypeId):NCall Tryz.prog 57 [.sl 0 (.slice none 0 0) 0] [⟨addrOf (.slice none 0 0),[],.row (.slice none 0 0) t 1 0⟩] fun r m=>r = .sl 0 (.slice none 0 0) 0∧m=[⟨addrOf (.slice none 0 0),[],.row (.slice none 0 0) t 1 0⟩]:=by
 refine ncall_of Tryz.func57 rfl (by decide) ?_
 (repeat' (first|(with_reducible first|(refine hK _ _ ?_;clear hK K)|(refine hA ?_;clear hA hB A B)|(refine hK _ ?_;clear hK K))|((with_reducible refine z25 ?_);intro K hK;(conv=>whnf))|(with_reducible refine z0 ?_)|((first|((with_reducible refine NIf.decY ?s ?_);case s=>omega)|((with_reducible refine NH.mk ?s ?_);case s=>(and_intros<;>with_reducible rfl)))<;>(conv=>whnf))|(with_reducible first|refine z3 ?_|refine z4 ?_|refine z8 ?_)|((with_reducible refine z29 ?_);intro A B hA hB;(conv=>whnf))|(with_reducible first|refine z1 ?_|refine z2 ?_|refine z12 ?_)|((with_reducible refine gR ?_);(refine z31 rfl ?_;intro K hK;(conv=>whnf)))|((with_reducible refine gF ?_);(refine z33 rfl ?_;intro K hK;(conv=>whnf)))))
 all_goals exact ⟨rfl,rfl⟩
theorem compact_c (v:Value) (t:TypeId) (l:List Int) (hl:l.length≤9223372036854775807) :
  NCall Tryz.prog 57 [.sl 0 v l.length] [⟨addrOf v,Srt.av l,.row v t 1 l.length⟩] fun r m=>r = .raw (Srt.cutTo v (Srt.comp l).length)∧m=[⟨addrOf v,Srt.av (Srt.comped l),.row v t 1 l.length⟩]:=by
 rw [NCall_iff]
 refine ⟨Go.Sx.enters_of Tryz.func57 rfl (by decide),fun w hm=>?_⟩
 obtain ⟨⟨h1,h2⟩,h3⟩:=hm.holds _ (List.mem_singleton.2 rfl)
 rcases h2 with ⟨rfl,hn⟩ | ⟨g,cap,cur,rfl,_,hg,hle,hcap,hsz,htk⟩
 ·have e:l=[]:=List.length_eq_zero_iff.1 hn
  subst e
  refine ((NCall_iff.1 (compact_nil t)).2 w hm).mono fun e w' ⟨r,m',⟨hr,hm'⟩,he,h⟩=>?_
  subst hr hm'
  exact ⟨.raw (.slice none 0 0),_,⟨rfl,rfl⟩,he,h⟩
 ·rw [Nat.mul_one,Srt.av_den] at htk
  have hlt:g<w.heap.size:=(Array.getElem?_eq_some_iff.1 hg).1
  have hc:=Tryz.slices_Compact (Value.int .i64) (fun _=>rfl) (EqlAt.intD _ _ .i64) (NeqAt.intD _ _ .i64) 0 Tryz.zeroValue3 g 0 cap l.toArray w (Go.holds_of_blockI hg htk) (by simpa using hl) (by simpa using hle)
  refine hc.mono fun e w' ⟨he,n,hw⟩=>?_
  have hgr:=Go.grownBy_sortedI (w:=w) (g:=g) (n:=n) (os:=#[]) (Srt.comped l).toArray
  have hown:=Go.ownsRow_sortedI (w:=w) (base:=0) (n:=n) (e:=t) (os:=#[]) (ss:=l) (ts:=Srt.comped l) (Srt.comped_len l) (Nat.zero_le _) hg hle hcap hsz
  rw [← Srt.av_den] at hown
  have hw':w'=Go.Sort.grow (Go.Sort.putRow (Value.int .i64) (Go.Sort.ahead w n) g 0 (Srt.comped l).toArray) #[]:=by rw [Go.Sort.grow_empty];exact hw
  rw [← hw'] at hgr hown
  have hfr:=Fr.grown hgr
  refine ⟨.raw (.slice (some ⟨g,0,none⟩) (Srt.comp l).length cap),_,⟨rfl,rfl⟩,he,?_,?_,?_⟩
  ·exact hm.set (i:=0) (k:=⟨addrOf (.slice (some ⟨g,0,none⟩) l.length cap),Srt.av (Srt.comped l),.row (.slice (some ⟨g,0,none⟩) l.length cap) t 1 l.length⟩) hfr.size rfl rfl
    (fun b hb hlt=>hfr.block b hlt fun e=>hb e) ⟨hown,rfl⟩ rfl (.inr (.inl rfl))
  ·exact ⟨hfr.os,hfr.tape,hfr.output,hfr.size,fun k hk hS=>hfr.block k hk fun e=>hS ⟨_,List.mem_singleton.2 rfl,rfl,e⟩⟩
  ·exact Fresh.set (i:=0) (Fresh.self _ _) (k:=⟨addrOf (.slice (some ⟨g,0,none⟩) l.length cap),Srt.av (Srt.comped l),.row (.slice (some ⟨g,0,none⟩) l.length cap) t 1 l.length⟩) rfl fun b hb=>.inl ⟨_,List.mem_singleton.2 rfl,rfl,hb⟩
namespace Srt
theorem row_cut {F:Heap} {v:Value} {a b:List Int} (h:Row F v (a++b)):Row F (cutTo v a.length) a∧cutTo v a.length=slOf (cutTo v a.length):=by
 obtain ⟨⟨A,cap,rfl,hle,hA⟩,hat⟩:=h
 rw [List.length_append] at hle
 refine ⟨⟨⟨A,cap,rfl,by omega,hA⟩,fun k x hx=>?_⟩,rfl⟩
 have hk:=(List.getElem?_eq_some_iff.1 hx).1
 have e:addrOf (cutTo (.slice A (a++b).length cap) a.length)=addrOf (.slice A (a++b).length cap):=by cases A<;>rfl
 rw [e]
 exact hat k x (by rw [List.getElem?_append_left hk];exact hx)
end Srt
set_option maxHeartbeats 4000000
namespace Pd
def psC (ps:List (T × Value)):List AV:=ps.flatMap fun p=>cs p.1 p.2
def psV (p:T × Value):List Value:=denL (cs p.1 p.2)
theorem psC_den:∀ ps,denL (psC ps)=ps.flatMap psV
 | []=>rfl
 | p::ps=>by
  have:=psC_den ps
  unfold psC at *
  rw [List.flatMap_cons,List.flatMap_cons,denL_append,this]
  rfl
theorem psC_len (ps:List (T × Value)):(psC ps).length=ps.length*4:=by
 induction ps with
 | nil=>rfl
 | cons p ps ih =>
  unfold psC at *
  rw [List.flatMap_cons,List.length_append,ih,List.length_cons]
  show 4+_=_
  omega
theorem psC_next (ps:List (T × Value)) (p:T × Value):psC (ps++[p])=psC ps++cs p.1 p.2:=by
 unfold psC
 rw [List.flatMap_append]
 simp
def Got (F:Heap) (t:TypeId) (X:T) (v:AV) (m:List Blk):Prop :=
 ∃ G u,∃ ps:List (T × Value),F.le G∧ps.map (·.1)=X.l∧(∀ p∈ps,Row G p.2 p.1.l)∧v.den=(AV.agg (cs X u)).den∧MemFits m [hpB G,⟨addrOf u,psC ps,.row u t 4 ps.length⟩]
theorem row_of {G:Heap} {u:Value} {ps:List (T × Value)} (h:RowF G 4 (fun p vs=>vs=psV p) u ps) (hall:∀ p∈ps,Row G p.2 p.1.l):Row G u (ps.map (·.1)):=by
 refine ⟨by rw [List.length_map];exact h.ok,fun k x hx=>?_⟩
 rw [List.getElem?_map] at hx
 cases hp:ps[k]? with
 | none=>rw [hp] at hx;cases hx
 | some p =>
  rw [hp] at hx
  simp only [Option.map_some,Option.some.injEq] at hx
  subst hx
  obtain ⟨vs,h1,h2,h3⟩:=h.at_ k p hp
  have hr:=hall p (List.mem_of_getElem? hp)
  refine ⟨vs,?_,h2,h3⟩
  obtain ⟨A,cap,hv,hle,hz⟩:=hr.ok
  rw [h1]
  obtain ⟨x,w⟩:=p
  dsimp only at hv hr ⊢
  subst hv
  exact R.of hr
theorem got_know {f:FuncId} {args:List AV} {F:Heap} {t:TypeId} {m:List Blk} {X:T} (h:NCall Tryz.prog f args m fun v m'=>Got F t X v m') :
  NCall Tryz.prog f args m fun v m'=>∃ F' u,F.le F'∧Row F' u X.l∧v = .agg (cs X u)∧m'=[hpB F']:=by
 refine Go.Sx.NCall.know h fun r m' ⟨G,u,ps,hle,hmap,hall,hr,hm⟩ ⟨w,hw⟩=>?_
 have hok:=((hm w hw).1.row (List.mem_cons_of_mem _ (List.mem_cons_self ..))).1
 have hrow:=rowF_new (F:=G) (sz:=4) (enc:=psV) hok (psC_den ps) (fun x _=>rfl)
 refine ⟨_,_,hr.symm,hm.trans (MemFits.freeze (m:=[])),_,u,hle.trans addF.old,?_,rfl,rfl⟩
 rw [← hmap]
 exact row_of hrow fun p hp=>Row.mono addF.old (hall p hp)
abbrev Lays (F:Heap) (X:T) (r:AV) (m:List Blk):Prop:=∃ F' u,F.le F'∧Row F' u X.l∧r = .agg (cs X u)∧m=[hpB F']
end Pd
theorem mine26_c:∀ (n:Nat) (F:Heap) (p:Pd.T) (u:Value),Pd.size p≤n→Pd.size p≤2932031007402→Pd.Row F u p.l →
  NCall Tryz.prog 29 [.agg (Pd.cs p u)] [hpB F] fun r m=>Pd.Lays F p r m
 | 0,F,p,u,hn,_,_=>absurd (Pd.size_pos p) (by omega)
 | n+1,F,⟨k,f,v,l⟩,u,hn,hs,hu=>by
  refine Pd.got_know (t:=38) ?_
  have hu:Pd.Row F u l:=hu
  have hok:=hu.ok
  have e2:Pd.size (.mk k f v l)=1+Pd.sizeL l:=by rw [Pd.size]
  have hll:=Pd.length_le l
  have ih:∀ G,∀ x∈l,∀ w,Pd.Row G w x.l→NCall Tryz.prog 29 [.agg (Pd.cs x w)] [hpB G] fun r m=>Pd.Lays G x r m:=fun G x hx w hw=>mine26_c n G x w (by have:=Pd.size_lt (k:=k) (f:=f) (v:=v) hx;omega) (by have:=Pd.size_lt (k:=k) (f:=f) (v:=v) hx;omega) hw
  refine ncall_of Tryz.func29 rfl (by decide) ?_
  rw [pd_cs]
  (repeat' (first|(with_reducible first|(refine hK _ _ ?_;clear hK K)|(refine hK _ ?_;clear hK K))|((with_reducible refine z25 ?_);intro K hK;(conv=>whnf))|(with_reducible refine z0 ?_)|((first|(with_reducible refine NN.a5 ?_)|((with_reducible refine NH.mk ?s ?_);case s=>(and_intros<;>first|with_reducible rfl|((with_reducible refine gOnes ?_);rfl)|((with_reducible refine gLen ?_);rfl))))<;>(conv=>whnf))|(with_reducible first|refine z3 ?_|refine z4 ?_|refine z5 ?_|refine z1 ?_|refine z2 ?_)|((with_reducible refine gF ?_);(refine z33 rfl ?_;intro K hK;(conv=>whnf)))|((intro _;skip)<;>(conv=>whnf))))
  refine st_auto (α:=Heap × Value × List (Pd.T × Value)) (fun (G,w,ps)=>F.le G∧ps.map (·.1)=l.take ps.length∧ps.length≤l.length∧∀ p∈ps,Pd.Row G p.2 p.1.l) (fun (G,w,ps)=>[.keep,.keep,.keep,.keep,.set (.int .i64 ps.length),.keep,.keep,.keep,.keep,.keep,.keep,.keep,.drop,.drop,.drop,.drop,.drop,.drop,.drop,.drop,.drop,.drop,.drop,.drop,.drop,.drop,.drop,.drop,.drop,.drop,.keep])
   (fun (G,w,ps)=>[.set (hpB G),.keep,.keep,.cells [.int .i64 k,.int .i64 f,.int .i64 v,.sl 4 w ps.length],.set ⟨addrOf w,Pd.psC ps,.row w 38 4 ps.length⟩]) (fun (G,w,ps)=>l.length - ps.length) (F,.slice none 0 0,[]) ⟨F.le_refl,rfl,Nat.zero_le _,fun p hp=>by simp at hp⟩ ?_ ((MemFits.nilRow _ 38 4).trans (MemFits.congr rfl)) ?_
  ·repeat (first|exact FitsSl.nil|refine FitsSl.any ?_|refine FitsSl.cons (Fit1.int (by first | rfl | omega)) ?_|refine FitsSl.cons (Fit1.same (by intro h;cases h) (by with_reducible rfl)) ?_)
  (intro ⟨G,w,ps⟩ ⟨hle,hmap,hlen,hall⟩;intro K hK;(conv=>whnf);refine hK _ _ ?_;clear hK K)
  dsimp only
  generalize hk:ps.length=i at *
  by_cases hlt:i<l.length
  ·have hx:l[i]?=some l[i]:=List.getElem?_eq_getElem hlt
   obtain ⟨A,cap,hA,c0,c1,c2,c3⟩:=(Pd.Row.mono hle hu).get hx
   have hmem:=List.mem_of_getElem? hx
   have c:=ih G _ hmem _ hA
   have hnx:l.take (i+1)=l.take i++[l[i]]:=by rw [List.take_add_one,hx];rfl
   clear ih
   generalize l[i]=x at *
   have hpl:=Pd.psC_len ps
   have hpn:=Pd.psC_next ps
   generalize hpc:Pd.psC ps=pc at *
   obtain ⟨xk,xf,xv,xl⟩:=x
   simp only [Pd.Lays,Pd.cs,Pd.T.k,Pd.T.f,Pd.T.v,Pd.T.l] at c c0 c1 c2 c3 hA
   (repeat' (first|(with_reducible first|(refine hK _ _ ?_;clear hK K)|(refine hA ?_;clear hA hB A B)|(refine hK _ ?_;clear hK K))|((with_reducible refine z25 ?_);intro K hK;(conv=>whnf))|(with_reducible refine z0 ?_)|((first|((with_reducible refine NV.i64 ?s ?_);case s=>omega)|((with_reducible refine NIf.decY ?s ?_);case s=>omega)|(with_reducible first|refine NN.cast ?_|refine NN.a5 ?_|refine NN.keep ?_)|((with_reducible refine NH.mk ?s ?_);case s=>(and_intros<;>first|with_reducible rfl|((with_reducible refine gOnes ?_);rfl)|((with_reducible refine gLen ?_);rfl)|omega))|((with_reducible refine NCall.isF 29 ?_);refine NCall.subw [0] _ _ (c) rfl (by decide) rfl ?_;rintro _ _ ⟨G',w',hle2,hrow,rfl,rfl⟩;refine ⟨Nat.le_of_ble_eq_true rfl,_,rfl,?_⟩)|(with_reducible refine NLd.of (by with_reducible assumption) ?_))<;>(conv=>whnf))|((with_reducible refine gNO ?_);(first|(refine z36 rfl (by kernel_rfl) ?_;intro K hK;(conv=>whnf))|refine z38 rfl (by kernel_rfl) ?_|refine z39 rfl rfl (by kernel_rfl) (by intro h;cases h) ?_))|((with_reducible refine gNE ?_);(first|(refine z40 ?_ ?_;(intro K hK;(conv=>whnf)))|exact z42))|((with_reducible refine gX ?_);(first|refine z35 (by kernel_rfl) _ rfl ?_|(with_reducible first|refine z3 ?_|refine z4 ?_|refine z5 ?_|refine z6 ?_)|((with_reducible refine z29 ?_);intro A B hA hB;(conv=>whnf))))|(with_reducible first|refine z1 ?_|refine z2 ?_|refine z9 ?_)|((intro _;skip)<;>(conv=>whnf))))
   all_goals
    rename_i v9
    refine st_round (G',v9,ps++[(⟨xk,xf,xv,xl⟩,w')]) ⟨hle.trans hle2,by rw [List.map_append,hmap,List.length_append,hk];exact hnx.symm,by rw [List.length_append,hk];exact hlt,fun x hx=>?_⟩ (by rw [List.length_append,hk];show l.length - (i+1)<l.length - i;omega) ?_ (MemFits.pre 5 ?_)
    ·rcases List.mem_append.1 hx with hx | hx
     ·exact Pd.Row.mono hle2 (hall x hx)
     ·rw [List.mem_singleton.1 hx];exact hrow
    ·simp only [List.length_append,hk]
     repeat (first|exact FitsSl.nil|refine FitsSl.any ?_|refine FitsSl.cons (Fit1.int (by first | rfl | omega)) ?_|refine FitsSl.cons (Fit1.same (by intro h;cases h) (by with_reducible rfl)) ?_)
    ·simp only [autoM,List.take,List.length_append,hk,hpn]
     rw [show i+[((⟨xk,xf,xv,xl⟩:Pd.T),w')].length=i+1 from rfl]
     rfl
  ·have hkl:i=l.length:=by omega
   subst hkl
   (repeat' (first|(with_reducible first|(refine hK _ _ ?_;clear hK K)|(refine hB ?_;clear hA hB A B)|(refine hK _ ?_;clear hK K))|((with_reducible refine z25 ?_);intro K hK;(conv=>whnf))|(with_reducible refine z0 ?_)|((first|((with_reducible refine NIf.decN ?s ?_);case s=>omega)|(with_reducible refine NN.a5 ?_)|((with_reducible refine NH.mk ?s ?_);case s=>(and_intros<;>first|with_reducible rfl|((with_reducible refine gOnes ?_);rfl)|((with_reducible refine gLen ?_);rfl)|omega)))<;>(conv=>whnf))|(with_reducible first|refine z3 ?_|refine z4 ?_|refine z7 ?_|refine z8 ?_)|((with_reducible refine z29 ?_);intro A B hA hB;(conv=>whnf))|(with_reducible first|refine z1 ?_|refine z2 ?_|refine z10 ?_|refine z11 ?_|refine z19 ?_)|((with_reducible refine gR ?_);(refine z31 rfl ?_;intro K hK;(conv=>whnf)))))
   all_goals exact ⟨G,w,ps,hle,by rw [hmap,List.take_length];rfl,hall,rfl,by rw [hk];exact MemFits.pick [0,4] (by decide) rfl⟩
end Go.Proofs.YtaolcaggdddkpaaGreat
