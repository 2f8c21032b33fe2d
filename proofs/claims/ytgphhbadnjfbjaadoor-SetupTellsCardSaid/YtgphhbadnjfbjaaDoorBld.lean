import Derived.Test.YtgphhbadnjfbjaaDoorLay
import Derived.Test.YtgphhbadnjfbjaaDoorLib1
namespace Go.Proofs.YtgphhbadnjfbjaaDoor
open Go.Sx Go.Shelf Go.RowKit
set_option maxRecDepth 100000
set_option linter.unusedVariables false
namespace Bld
section
variable {P:Program} {ρ:Ren}
theorem own_keep {w w':World} {e:TypeId} {v:Value} {n:Nat} {xs:List Value} (h:w.ownsRow 0 e 1 v n xs) (hk:∀ k,v.ownBlock=some k→w'.heap[k]?=w.heap[k]?):w'.ownsRow 0 e 1 v n xs:=by
  refine ⟨h.1,?_⟩
  rcases h.2 with h2 | ⟨g,cap,cur,rfl,hb,hg,r⟩
  · exact .inl h2
  · exact .inr ⟨g,cap,cur,rfl,hb,(hk g rfl).trans hg,r⟩
theorem run_append_str (w:World) (t u ty e:TypeId) (i:TypeInfo) (ht:P.underlying t=some (.slice e)) (hu:P.underlying u=some .string) (hi:P.info? e=some i) (hz:i.zero=some (.int .u8 0))
    (hsize:i.size=1) (hby:i.bytes=1) (v:Value) (n:Nat) (xs:List Value) (hown:w.ownsRow 0 e 1 v n xs) (s:ByteArray) (h63:n+s.size≤maxLen) (hbytes:n+s.size≤140737488355328) :
    ∃ v' w',(Builtin.append_ #[t,u] ty #[v,.string s]).run P w = .ok v' w'∧w'.ownsRow 0 e 1 v' (n+s.size) (xs++Lib.strCells s)∧w.grownBy w' v.ownBlock∧(v'.ownBlock=v.ownBlock∨∀ k,v'.ownBlock=some k→w.heap.size≤k):=by
  obtain ⟨v',w',hr,h2,h3,h4⟩:=Lib.run_append_own_string (P:=P) w 0 t u ty e i ht hu hi hz hsize hby v n xs hown s h63 hbytes (Nat.zero_le _)
  refine ⟨v',w',hr,h2,h3,?_⟩
  have hsmall:n+s.size≤9223372036854775807:=by omega
  rcases hown.2 with ⟨rfl,rfl⟩ | ⟨g,cap,cur,rfl,hbg,hg,hnc,hcm,hcs,htake⟩
  · obtain rfl:xs=[]:=List.eq_nil_of_length_eq_zero (by simpa using hown.1)
    obtain ⟨v2,w2,hr2,h5,_⟩:=Lib.run_append_own_string (P:=P) w w.heap.size t u ty e i ht hu hi hz hsize hby (.slice none 0 0) 0 [] (World.ownsRow_nil w _ e 1) s h63 hbytes (Nat.le_refl _)
    rw [hr] at hr2
    injection hr2 with e1 e2
    subst e1 e2
    refine .inr fun k hk=>?_
    rcases h5.2 with ⟨rfl,_⟩ | ⟨g,cap,cur,rfl,hb,_⟩
    · cases hk
    · simp only [Value.ownBlock,Option.some.injEq] at hk
      subst hk;exact hb
  · by_cases hroom:n+s.size≤cap
    · have hcs2:cur.size=cap:=by simpa using hcs
      have hr2:=Lib.run_append_room_string (P:=P) w t u ty e i ht hu hi hsize g n cap cur hg s hroom (by omega)
      rw [hr] at hr2
      injection hr2 with e1 e2
      exact .inl (by rw [e1];rfl)
    · have holds:∀ j u,xs[j]?=some u→w.cell? ((⟨g,0,none⟩:Addr).add j)=some u:=hown.cells (g:=g) rfl
      have hxl:xs.length=n:=by simpa using hown.1
      have hr2:=Lib.run_append_grow_string (P:=P) w t u ty e i (.int .u8 0) ht hu hi hz ⟨g,0,none⟩ n cap xs (by rw [hsize];simpa using hxl) holds s (by omega) (by omega) (by rw [hby];exact growslice_fits (by omega) (by omega))
      rw [hr] at hr2
      injection hr2 with e1 e2
      refine .inr fun k hk=>?_
      rw [e1] at hk
      simp only [Value.ownBlock,Option.some.injEq] at hk
      omega
theorem wpList_append_str {ops:Array Oper} {rest:List Oper} {o:Oper} {a:Act} {w:World} {Q:Exit→Act→World→Prop} (hgd:o.guard=none) (sl x:Operand) (t u:TypeId)
    (ho:o.op = .call { callee:=.builtin .append,args:=#[sl,x],argTypes:=#[t,u] })
    (e:TypeId) (i:TypeInfo) (ht:P.underlying t=some (.slice e)) (hu:P.underlying u=some .string) (hi:P.info? e=some i) (hz:i.zero=some (.int .u8 0))
    (hsize:i.size=1) (hby:i.bytes=1)
    (v:Value) (n:Nat) (xs:List Value) (hs:a.eval sl=v) (hown:w.ownsRow 0 e 1 v n xs) (s:ByteArray) (hx:a.eval x = .string s)
    (h63:n+s.size≤maxLen) (hbytes:n+s.size≤140737488355328)
    (h:∀ v' w',w'.ownsRow 0 e 1 v' (n+s.size) (xs++Lib.strCells s)→w.grownBy w' v.ownBlock→(v'.ownBlock=v.ownBlock∨∀ k,v'.ownBlock=some k→w.heap.size≤k)→wpList P ops Q rest (a.put o.dst v') w'):wpList P ops Q (o::rest) a w:=by
  refine wpList_plain hgd fun K hK=>?_
  obtain ⟨v',w',hr,h2,h3,h4⟩:=run_append_str (P:=P) w t u o.type e i ht hu hi hz hsize hby v n xs hown s h63 hbytes
  unfold Oper.wp execOp
  simp only [ho,resolve,invoke,builtin,Sem.run_bind,Sem.run_pure,Result.andThen_ok,List.map_toArray,List.map_cons,List.map_nil,hs,hx,hr]
  exact hK _ _ (h v' w' h2 h3 h4)
end
section
set_option maxHeartbeats 2000000 in
theorem check_used (b:Nat) (w:World) (h0:w.cell? ⟨b,0,none⟩=some (.pointer (some ⟨b,0,none⟩))) :
    Calls Tryd.prog 46 #[.pointer (some ⟨b,0,none⟩)] w fun e w'=>e = .returned (.tuple #[])∧w'=w:=by
  obtain ⟨j,hj,_⟩:=Option.map_eq_some_iff.1 Tryd.Builder_Extra_169.sizeBuilder
  go_enter Tryd.func46,Tryd.ntmps46
  go_wp2
  rw [Lib.run_neq_ptr_same w _ Tryd.underlying58 hj]
  go_wp2
  go_end0
  exact ⟨rfl,rfl⟩
set_option maxHeartbeats 2000000 in
theorem check_fresh (b:Nat) (w:World) (h0:w.cell? ⟨b,0,none⟩=some (.pointer none)) (hsh:w.shape? b=some (61,2)) (hfz:w.frozen? ⟨b,0,none⟩=false) :
    Calls Tryd.prog 46 #[.pointer (some ⟨b,0,none⟩)] w fun e w'=>e = .returned (.tuple #[])∧w'=w.setCell ⟨b,0,none⟩ (.pointer (some ⟨b,0,none⟩)):=by
  obtain ⟨j,hj,hjs⟩:=Option.map_eq_some_iff.1 Tryd.Builder_Extra_169.sizeBuilder
  go_enter Tryd.func46,Tryd.ntmps46
  go_wp2
  rw [Lib.run_to_unsafe w ⟨b,0,none⟩ Tryd.underlying58 Tryd.underlying100 hj (by rw [hjs];decide) hsh (Nat.zero_lt_succ 1)]
  simp only [Result.andThen]
  rw [Oper.upon_value]
  go_wp2
  rw [run_callFunc_extern Tryd.func53 (by kernel_rfl) (by kernel_rfl) (by kernel_rfl) (e:=Extern.AbiNoEscape.same) (by kernel_rfl)]
  rw [Lib.run_noEscape]
  simp only [Result.andThen]
  rw [Oper.upon_value]
  go_wp2
  rw [Lib.run_from_unsafe w ⟨b,0,none⟩ Tryd.underlying100 Tryd.underlying58 hj hsh Tryd.Builder_Extra_169.liesBuilder]
  simp only [Result.andThen]
  rw [Oper.upon_value]
  go_wp2
  go_end0
  exact ⟨rfl,rfl⟩
theorem check (b:Nat) (p v:Value) (w:World) (hp:p = .pointer none∨p = .pointer (some ⟨b,0,none⟩)) (hbk:w.heap[b]?=some (.cells #[p,v] 61 (0,0))) :
    Calls Tryd.prog 46 #[.pointer (some ⟨b,0,none⟩)] w fun e w'=>e = .returned (.tuple #[])∧w'.heap[b]?=some (.cells #[.pointer (some ⟨b,0,none⟩),v] 61 (0,0))∧w'.os=w.os∧w'.tape=w.tape∧w'.output=w.output∧w'.heap.size=w.heap.size∧∀ k,k≠b→w'.heap[k]?=w.heap[k]?:=by
  rcases hp with rfl | rfl
  · refine (check_fresh b w (by simp [World.cell?,hbk]) (by simp [World.shape?,hbk]) (by simp [World.frozen?,hbk])).mono ?_
    rintro e w' ⟨rfl,rfl⟩
    exact ⟨rfl,by simp [World.setCell,Array.getElem?_modify,hbk],rfl,rfl,rfl,by simp [World.setCell],fun k hk=>Below.heap_setCell _ _ _ _ (fun e=>hk (by simp [e]))⟩
  · refine (check_used b w (by simp [World.cell?,hbk])).mono ?_
    rintro e w' ⟨rfl,rfl⟩
    exact ⟨rfl,hbk,rfl,rfl,rfl,rfl,fun _ _=>rfl⟩
set_option maxHeartbeats 2000000 in
theorem write (b:Nat) (p v:Value) (bs:List Value) (s:ByteArray) (w:World) (hp:p = .pointer none∨p = .pointer (some ⟨b,0,none⟩)) (hbk:w.heap[b]?=some (.cells #[p,v] 61 (0,0)))
    (hown:w.ownsRow 0 5 1 v bs.length bs) (hne:v.ownBlock≠some b) (hlen:bs.length+s.size≤140737488355328) :
    Calls Tryd.prog 22 #[.pointer (some ⟨b,0,none⟩),.string s] w fun e w'=>e = .returned (.tuple #[.int .i64 s.size,.nilIface])∧∃ v',w'.heap[b]?=some (.cells #[.pointer (some ⟨b,0,none⟩),v'] 61 (0,0)) ∧
      w'.ownsRow 0 5 1 v' (bs.length+s.size) (bs++Lib.strCells s)∧v'.ownBlock≠some b∧(v'.ownBlock=v.ownBlock∨∀ k,v'.ownBlock=some k→w.heap.size≤k) ∧
      w'.os=w.os∧w'.tape=w.tape∧w'.output=w.output∧w.heap.size≤w'.heap.size∧∀ k,k<w.heap.size→k≠b→v.ownBlock≠some k→w'.heap[k]?=w.heap[k]?:=by
  obtain ⟨i0,hi,hz0,hz1,hz2⟩:=info_parts Tryd.Builder_Extra_169.infoByte
  have eC:∀ args w,(callFunc 46 args).run Tryd.prog w = .ok (.enter 46 args) w:=Go.Sx.enters_of Tryd.func46 rfl (by decide)
  go_enter Tryd.func22,Tryd.ntmps22
  go_wp2_with (go_at_call 46;refine (check b p v _ hp hbk).mono ?_)
  rintro e w1 ⟨rfl,hbk1,o1,o2,o3,hsz1,hoth1⟩
  have hown1:w1.ownsRow 0 5 1 v bs.length bs:=own_keep hown fun k hk=>hoth1 k fun e=>hne (by rw [hk,e])
  have c0:w1.cell? ⟨b,0,none⟩=some (.pointer (some ⟨b,0,none⟩)):=by rw [Lib.cell_of_heap hbk1];rfl
  have c1:w1.cell? ⟨b,1,none⟩=some v:=by rw [Lib.cell_of_heap hbk1];rfl
  go_wp2_with (at_builtin;refine wpList_append_str rfl _ _ 59 9 rfl 5 i0 Tryd.underlying59 Tryd.underlying9 hi hz0 hz1 hz2 _ _ _ rfl hown1 s rfl ?c3 ?c4 ?_)
  case c3=>unfold maxLen;omega
  case c4=>omega
  intro v' w2 hown' hgrow hfresh
  have hlt:b<w1.heap.size:=by
    rcases Nat.lt_or_ge b w1.heap.size with h' | h'
    · exact h'
    · simp [Array.getElem?_eq_none h'] at hbk1
  have hb2:w2.heap[b]?=some (.cells #[.pointer (some ⟨b,0,none⟩),v] 61 (0,0)):=by
    rw [hgrow.block b hlt (fun e=>hne e.symm)]
    exact hbk1
  have d0:w2.cell? ⟨b,0,none⟩=some (.pointer (some ⟨b,0,none⟩)):=by rw [Lib.cell_of_heap hb2];rfl
  have d1:w2.cell? ⟨b,1,none⟩=some v:=by rw [Lib.cell_of_heap hb2];rfl
  have f1:w2.frozen? ⟨b,1,none⟩=false:=Lib.frozen_of_heap hb2 1
  have hne':=Lib.ownBlock_ne hown' hb2 (by decide)
  obtain ⟨ao,n',cap,rfl⟩:∃ ao n' cap,v' = .slice ao n' cap:=by
    rcases hown'.2 with ⟨hv,_⟩ | ⟨g,cap,cur,hv,_⟩
    · exact ⟨_,_,_,hv⟩
    · exact ⟨_,_,_,hv⟩
  go_wp2
  go_ret2
  refine ⟨rfl,.slice ao n' cap,?_,?_,hne',hfresh,hgrow.os.trans o1,hgrow.tape.trans o2,hgrow.output.trans o3,?_,fun k hk hkb hkv=>?_⟩
  · simp [World.setCell,Array.getElem?_modify,hb2]
  · exact own_keep hown' fun k hk=>Below.heap_setCell _ _ _ _ (fun e=>hne' (by rw [hk];simp [e]))
  · have:=hgrow.size
    simp only [World.setCell,Array.size_modify]
    omega
  · refine (Below.heap_setCell _ _ _ _ (fun e=>hkb (by simp [e]))).trans ?_
    exact (hgrow.block k (by omega) (fun e=>hkv e.symm)).trans (hoth1 k hkb)
end
section
variable {P:Program} {ρ:Ren}
set_option maxHeartbeats 2000000 in
theorem string (L:Lays.n169 P ρ) (X:Builder.Extra P ρ) (b:Nat) (p v:Value) (l:List UInt8) (w:World) (hbk:w.heap[b]?=some (.cells #[p,v] (ρ.t 72) (0,0))) (hown:w.ownsRow 0 (ρ.t 5) 1 v l.length (Lib.byteCells l)) (h0:l≠[]) :
    Calls P (ρ.f 169) #[.pointer (some ⟨b,0,none⟩)] w fun e w'=>e = .returned (.string ⟨l.toArray⟩)∧w'.os=w.os∧w'.tape=w.tape∧w'.output=w.output∧w.heap.size≤w'.heap.size∧∀ k,k<w.heap.size→v.ownBlock≠some k→w'.heap[k]?=w.heap[k]?:=by
  have hl0:l.length≠0:=by simpa using h0
  obtain ⟨g,cap,cur,rfl,hbg,hg,hnc,hcm,hcs,htake⟩:∃ g cap cur,v = .slice (some ⟨g,0,none⟩) l.length cap∧0≤g∧w.heap[g]?=some (.cells cur (ρ.t 5) (0,0))∧l.length≤cap∧cap≤maxLen∧cur.size=cap*1∧cur.toList.take (l.length*1)=Lib.byteCells l:=by
    rcases hown.2 with ⟨_,hz⟩ | ⟨g,cap,cur,hv,r⟩
    · exact absurd hz hl0
    · exact ⟨g,cap,cur,hv,r⟩
  have c1:w.drew.cell? ⟨b,1,none⟩=some (.slice (some ⟨g,0,none⟩) l.length cap):=by
    have:w.drew.heap[b]?=some (.cells #[p,.slice (some ⟨g,0,none⟩) l.length cap] (ρ.t 72) (0,0)):=hbk
    rw [Lib.cell_of_heap this];rfl
  have hSD:(Builtin.unsafeSliceData_ #[(ρ.t 37)] (ρ.t 127) #[.slice (some ⟨g,0,none⟩) l.length cap]).run P w.drew = .ok (.pointer (some ⟨g,0,none⟩)) w.drew :=
    Lib.run_unsafeSliceData_row _ _ _ _ _ _ (by omega)
  have hUS:(Builtin.unsafeString_ #[(ρ.t 127),(ρ.t 3)] (ρ.t 9) #[.pointer (some ⟨g,0,none⟩),.int .i64 l.length]).run P w.drew = .ok (.string ⟨l.toArray⟩) (w.drew.freeze ⟨g,0,none⟩ l.length):=by
    refine Lib.run_unsafeString_row w.drew (ρ.t 127) (ρ.t 3) (ρ.t 9) (ρ.t 5) L.t127 X.cellsByte g cur.size (by have hg':w.drew.heap[g]?=some (.cells cur (ρ.t 5) (0,0)):=hg;simp [World.shape?,hg']) l h0 (by omega) (by unfold maxLen at hcm;omega) ?_
    intro j x hx
    have:=hown.cells (g:=g) rfl j (.int .u8 x.toNat) (by simp [Lib.byteCells,hx])
    exact this
  have hfin:(w.drew.freeze ⟨g,0,none⟩ l.length).os=w.os∧(w.drew.freeze ⟨g,0,none⟩ l.length).tape=w.tape∧(w.drew.freeze ⟨g,0,none⟩ l.length).output=w.output∧w.heap.size≤(w.drew.freeze ⟨g,0,none⟩ l.length).heap.size∧∀ k,k<w.heap.size→(Value.slice (some ⟨g,0,none⟩) l.length cap).ownBlock≠some k→(w.drew.freeze ⟨g,0,none⟩ l.length).heap[k]?=w.heap[k]?:=by
    unfold World.freeze
    rw [if_neg hl0]
    refine ⟨rfl,rfl,rfl,by rw [Array.size_modify];exact Nat.le_refl _,fun k hk hne=>?_⟩
    have:g≠k:=fun e=>hne (by simp [Value.ownBlock,e])
    simp only [Array.getElem?_modify]
    rw [if_neg this]
    rfl
  generalize hW:w.drew.freeze ⟨g,0,none⟩ l.length=W at *
  have mixed:=L.mixed
  have t72:=L.t72;have a72:=L.a72;have z72:=L.z72;have v72:=L.v72;have u72:=run_underlying L.t72
  have t70:=L.t70;have a70:=L.a70;have z70:=L.z70;have v70:=L.v70;have u70:=run_underlying L.t70
  have t37:=L.t37;have a37:=L.a37;have z37:=L.z37;have v37:=L.v37;have u37:=run_underlying L.t37
  have t127:=L.t127;have a127:=L.a127;have z127:=L.z127;have v127:=L.v127;have u127:=run_underlying L.t127
  have t3:=L.t3;have a3:=L.a3;have z3:=L.z3;have v3:=L.v3;have u3:=run_underlying L.t3
  have t9:=L.t9;have a9:=L.a9;have z9:=L.z9;have v9:=L.v9;have u9:=run_underlying L.t9
  have t5:=X.t5;have a5:=X.a5;have z5:=X.z5;have v5:=X.v5;have u5:=run_underlying X.t5
  go_enter L.f169,Body.n169_ntmps ρ
  go_wp2
  go_region_o
  all_goals (go_wp2;go_ret;exact ⟨rfl,hfin⟩)
end
def bytesAV (l:List UInt8):List AV:=l.map fun c=>.int .u8 c.toNat
theorem bytesAV_den (l:List UInt8):denL (bytesAV l)=Lib.byteCells l:=by
  induction l with
  | nil=>rfl
  | cons c l ih=>simp only [bytesAV,List.map_cons,denL,AV.den,Lib.byteCells] at *;rw [ih]
end Bld
def bldB (a:Addr) (j:Nat) (p:AV) (v:Value) (l:List UInt8):List Blk:=[⟨a,[p,.sl j v l.length],.var 61⟩,⟨addrOf v,Bld.bytesAV l,.row v 5 1 l.length⟩]
theorem write_c (a:Addr) (p:AV) (v:Value) (l s:List UInt8) (hp:p = .raw (.pointer none)∨p = .ptr 0 a 0) (hlen:l.length+s.length≤140737488355328) :
    NCall Tryd.prog 22 [.ptr 0 a 0,.str s] (bldB a 1 p v l) fun r m=>∃ v',m=bldB a 1 (.ptr 0 a 0) v' (l++s)∧r = .tup [.int .i64 s.length,.raw .nilIface]:=by
  rw [NCall_iff]
  refine ⟨Go.Sx.enters_of Tryd.func22 rfl (by decide),fun w hm=>?_⟩
  have h1:=hm.holds _ (List.mem_cons_self ..)
  have h2:=hm.holds _ (List.mem_cons_of_mem _ (List.mem_singleton.2 rfl))
  have hs:=hm.sep
  obtain ⟨ha0,has,hbk⟩:=h1
  obtain ⟨hown,_⟩:=h2
  obtain ⟨b,rfl⟩:∃ b,a=⟨b,0,none⟩:=⟨a.block,by cases a;simp at ha0 has;subst ha0 has;rfl⟩
  rw [Bld.bytesAV_den] at hown
  have hslv:slOf v=v:=by rcases hown.2 with ⟨rfl,_⟩ | ⟨g,cap,cur,rfl,_⟩<;>rfl
  have hsl:(AV.sl 1 v l.length).den=v:=hslv
  have hne:v.ownBlock≠some b:=fun e=>by
    simp only [bldB,List.pairwise_cons] at hs
    exact hs.1 _ (List.mem_singleton.2 rfl) (.inl rfl) b (by simp [Blk.foot,Blk.bn]) (by simpa [Blk.foot,Blk.bn] using e)
  have hbk':w.heap[b]?=some (.cells #[p.den,v] 61 (0,0)):=by
    rw [show (#[p.den,v]:Array Value)=(denL [p,.sl 1 v l.length]).toArray from by simp only [denL,hsl]]
    exact hbk
  have hlb:(Lib.byteCells l).length=l.length:=Lib.byteCells_length l
  have hc:=Bld.write b p.den v (Lib.byteCells l) ⟨s.toArray⟩ w (by rcases hp with rfl | rfl<;>simp [AV.den,Addr.add]) hbk' (by rw [hlb];exact hown) hne (by rw [hlb];simpa [ByteArray.size] using hlen)
  refine Calls.mono (f:=22) (by simpa [denL,AV.den,Addr.add] using hc) ?_
  rintro e w' ⟨rfl,v',hb',hown',hne',hfr,o1,o2,o3,o4,o5⟩
  rw [hlb,Lib.strCells_eq] at hown'
  have hsz:(⟨s.toArray⟩:ByteArray).size=s.length:=by simp [ByteArray.size]
  rw [hsz,← Lib.byteCells_append,← Bld.bytesAV_den] at hown'
  have hslv':slOf v'=v':=by rcases hown'.2 with ⟨rfl,_⟩ | ⟨g,cap,cur,rfl,_⟩<;>rfl
  refine ⟨_,_,⟨v',rfl,rfl⟩,by simp [AV.den,denL,hsz],⟨?_,?_⟩,⟨o1,o2,o3,o4,fun k hk hn=>?_⟩,?_,?_⟩
  · intro k hk
    simp only [bldB,List.mem_cons,List.not_mem_nil,or_false] at hk
    rcases hk with rfl | rfl
    · refine ⟨rfl,rfl,?_⟩
      show w'.heap[b]?=_
      rw [hb']
      simp [denL,AV.den,Addr.add,hslv']
    · exact ⟨by simpa using hown',rfl⟩
  · simp only [bldB,List.pairwise_cons,List.mem_singleton,List.not_mem_nil,false_implies,implies_true,List.Pairwise.nil,and_true]
    rintro y rfl _ k h1 h2
    simp only [Blk.foot,Blk.bn,Option.some.injEq] at h1 h2
    subst h1
    exact hne' h2
  · refine o5 k hk (fun e=>hn ⟨_,List.mem_cons_self ..,rfl,by simp [Blk.foot,Blk.bn,e]⟩) fun e=>hn ⟨_,List.mem_cons_of_mem _ (List.mem_singleton.2 rfl),rfl,by simpa [Blk.foot,Blk.bn] using e⟩
  · rintro k ⟨x,hx,hw,hb⟩
    simp only [bldB,List.mem_cons,List.not_mem_nil,or_false] at hx
    rcases hx with rfl | rfl
    · exact .inl ⟨_,List.mem_cons_self ..,rfl,hb⟩
    · simp only [Blk.foot,Blk.bn] at hb
      rcases hfr with h | h
      · exact .inl ⟨_,List.mem_cons_of_mem _ (List.mem_singleton.2 rfl),rfl,by simp only [Blk.foot,Blk.bn];rw [← h];exact hb⟩
      · exact .inr (h k hb)
  · rintro k ⟨x,hx,hb⟩
    simp only [bldB,List.mem_cons,List.not_mem_nil,or_false] at hx
    rcases hx with rfl | rfl
    · exact .inl ⟨_,List.mem_cons_self ..,hb⟩
    · simp only [Blk.foot,Blk.bn] at hb
      rcases hfr with h | h
      · exact .inl ⟨_,List.mem_cons_of_mem _ (List.mem_singleton.2 rfl),by simp only [Blk.foot,Blk.bn];rw [← h];exact hb⟩
      · exact .inr (h k hb)
theorem string_c (a:Addr) (p:AV) (v:Value) (l:List UInt8) (h0:l≠[]∨v = .slice none 0 0) :
    NCall Tryd.prog 27 [.ptr 0 a 0] (bldB a 1 p v l) fun r m=>m=[]∧r = .str l:=by
  rw [NCall_iff]
  refine ⟨Go.Sx.enters_of Tryd.func27 rfl (by decide),fun w hm=>?_⟩
  have h1:=hm.holds _ (List.mem_cons_self ..)
  have h2:=hm.holds _ (List.mem_cons_of_mem _ (List.mem_singleton.2 rfl))
  obtain ⟨ha0,has,hbk⟩:=h1
  obtain ⟨hown,_⟩:=h2
  obtain ⟨b,rfl⟩:∃ b,a=⟨b,0,none⟩:=⟨a.block,by cases a;simp at ha0 has;subst ha0 has;rfl⟩
  rw [Bld.bytesAV_den] at hown
  have hslv:slOf v=v:=by rcases hown.2 with ⟨rfl,_⟩ | ⟨g,cap,cur,rfl,_⟩<;>rfl
  have hsl:(AV.sl 1 v l.length).den=v:=hslv
  have hbk':w.heap[b]?=some (.cells #[p.den,v] 61 (0,0)):=by
    rw [show (#[p.den,v]:Array Value)=(denL [p,.sl 1 v l.length]).toArray from by simp only [denL,hsl]]
    exact hbk
  have hc:Calls Tryd.prog 27 #[.pointer (some ⟨b,0,none⟩)] w fun e w'=>e = .returned (.string ⟨l.toArray⟩)∧w'.os=w.os∧w'.tape=w.tape∧w'.output=w.output∧w.heap.size≤w'.heap.size∧∀ k,k<w.heap.size→v.ownBlock≠some k→w'.heap[k]?=w.heap[k]?:=by
    rcases h0 with h0 | h0
    · exact Bld.string Tryd.lays169 Tryd.Builder_Extra_169 b p.den v l w hbk' hown h0
    · subst h0
      have hl:l=[]:=by
        rcases hown.2 with ⟨_,h⟩ | ⟨g,cap,cur,h,_⟩
        · exact List.eq_nil_of_length_eq_zero h
        · cases h
      subst hl
      refine (Any.Builder_String_nil Tryd.lays169 Tryd.Builder_Extra_169 w.heap.size b p.den w hbk').mono ?_
      rintro e w' ⟨rfl,h⟩
      exact ⟨rfl,h.os,h.tape,h.output,h.size,fun k hk _=>h.block k hk⟩
  refine Calls.mono (f:=27) (by simpa [denL,AV.den,Addr.add] using hc) ?_
  rintro e w' ⟨rfl,o1,o2,o3,o4,o5⟩
  refine ⟨_,_,⟨rfl,rfl⟩,by simp [AV.den],MemOk.nil _,⟨o1,o2,o3,o4,fun k hk hn=>?_⟩,fun k hk=>(wrs_nil hk).elim,fun k ⟨x,hx,_⟩=>by cases hx⟩
  exact o5 k hk fun e=>hn ⟨_,List.mem_cons_of_mem _ (List.mem_singleton.2 rfl),rfl,by simpa [Blk.foot,Blk.bn] using e⟩
end Go.Proofs.YtgphhbadnjfbjaaDoor
