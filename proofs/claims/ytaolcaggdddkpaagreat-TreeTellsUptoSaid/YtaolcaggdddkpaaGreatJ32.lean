import Derived.Test.YtaolcaggdddkpaaGreatJ31
import Derived.Test.YtaolcaggdddkpaaGreatJ5
import Derived.Test.YtaolcaggdddkpaaGreatRows
import Derived.ChangeArms
import Derived.Test.YtaolcaggdddkpaaGreatJ6
namespace Go.Proofs.YtaolcaggdddkpaaGreat
open Go.Sx
set_option maxRecDepth 20000
set_option linter.unusedSimpArgs false
set_option linter.unusedVariables false
set_option maxHeartbeats 8000000
theorem Tr.ans_facts (sw:Int) (x:Po.T) (hf:Tr.few x=true):(Tr.ans sw x).1.length≤1000∧(∀ c∈(Tr.ans sw x).1,c.out.length≤1000)∧(Po.right x=true→Po.cells (Po.spec sw x)≤4096)∧(Po.right x=true→Tr.cnt (Po.spec sw x) Tr.order≤1000000):=by
 have h3:=(Tr.few_iff hf).1
 by_cases hr:Po.right x=true
 ·have hxf:=Po.right_fits' hr
  have h1:=Nat.le_trans (Tr.few_cells sw x hxf 5) h3
  have h2:=Nat.le_trans (Tr.few_cnt sw x hxf) h3
  have hl:=Tr.cases_len sw (Po.spec sw x) Tr.order Tr.start
  unfold Tr.ans
  rw [if_pos hr]
  refine ⟨by show (Tr.all sw x).length≤1000;unfold Tr.all;omega,fun c hc=>Nat.le_trans (Tr.cases_out_len sw _ 64 (fun s=>Po.runs_64 sw _ (Po.spec_right sw x hr) s) Tr.order Tr.start c hc) (by decide),fun _=>Nat.le_trans h1 (by decide),fun _=>Nat.le_trans h2 (by decide)⟩
 ·unfold Tr.ans
  rw [if_neg hr]
  exact ⟨Nat.zero_le _,fun c hc=>(by cases hc),fun h=>absurd h hr,fun h=>absurd h hr⟩
theorem ptells31_c (F:Heap) (x:Po.T) (pu u:Value) (sw:Int) (t:Po.S) (hs:Po.tot x≤1000000000) (hx:Po.At F x pu u) :
  NCall Tryz.prog 3 [.agg (Po.cs x pu u),.int .i64 sw,.int .i64 t.port,.agg [.int .i64 t.p0,.int .i64 t.p1,.int .i64 t.p2,.int .i64 t.p3]] [hpB F] fun r _=>r = .bool true:=by
 have hok:=hx.l.ok
 have hpok:=hx.p.ok
 have cw:=fun G=>awake31_c G
 have cF:=few31_c F x pu u hs hx
 by_cases hfw:Tr.few x=true
 rotate_left
 ·have hfw:Tr.few x=false:=by simpa using hfw
  rw [hfw] at cF
  have cw:=cw F
  clear hx hfw
  obtain ⟨k,⟨pk,pf,pv,pl⟩,a,v,l⟩:=x
  obtain ⟨t0,t1,t2,t3,t4⟩:=t
  simp only [po_cs,Po.T.l,Po.T.p,Pd.T.k,Pd.T.f,Pd.T.v,Pd.T.l] at *
  refine ncall_of Tryz.func3 rfl (by decide) ?_
  (repeat' (first|(with_reducible first|(refine hK _ _ ?_;clear hK K)|(refine hA ?_;clear hA hB A B)|(refine hK _ ?_;clear hK K))|((with_reducible refine z25 ?_);intro K hK;(conv=>whnf))|(with_reducible refine z0 ?_)|((first|with_reducible refine NIf.not_ ?_|((with_reducible refine NIf.no ?s ?_);case s=>rfl)|((with_reducible refine NH.mk ?s ?_);case s=>(and_intros<;>with_reducible rfl))|((with_reducible refine NCall.isF 6 ?_);refine NCall.subE [0] (cF) rfl (by decide) rfl rfl ?_)|((with_reducible refine NCall.isF 7 ?_);refine NCall.subE [0] (cw) rfl (by decide) rfl rfl ?_))<;>(conv=>whnf))|(with_reducible first|refine z3 ?_|refine z4 ?_|refine z8 ?_)|((with_reducible refine z29 ?_);intro A B hA hB;(conv=>whnf))|(with_reducible first|refine z1 ?_|refine z2 ?_|refine z12 ?_)|((with_reducible refine gR ?_);(refine z31 rfl ?_;intro K hK;(conv=>whnf)))|((with_reducible refine gF ?_);(refine z33 rfl ?_;intro K hK;(conv=>whnf)))|((intro _;skip)<;>(conv=>whnf))))
  all_goals rfl
 rw [hfw] at cF
 obtain ⟨hn,hout,hce,hcn⟩:=Tr.ans_facts sw x hfw
 have cm:=mine27_c _ F x pu u (Nat.le_refl _) (by omega) hx
 have cC:=fun G a b (h:Po.At G x a b)=>Cases31_c G x a b sw hs h hce hcn
 have cD:=fun G (h:F.le G)=>RefCases31_c G x pu u sw hs (Po.At.mono h hx) hce hcn
 generalize (Tr.ans sw x).1=C at *
 generalize (Tr.ans sw x).2=e at *
 have cT:=fun G v (h:Tr.Row G v C)=>theirs31_c G v C h (by omega)
 have cS:=fun G v w (h:Tr.Row G v C) (h2:Tr.Row G w C)=>refsamec31_c G v w C h h2 (by omega) hout
 have cP:=fun G v (h:Tr.Row G v C)=>find31_c G t v C h (by omega)
 have cQ:=fun G v (h:Tr.Row G v C)=>reffind31_c G t v C h (by omega)
 generalize Tr.idx (Tr.hit t) C=ix at *
 clear hx hfw hce hcn hout
 obtain ⟨k,⟨pk,pf,pv,pl⟩,a,v,l⟩:=x
 obtain ⟨t0,t1,t2,t3,t4⟩:=t
 simp only [po_cs,Po.Lays,Tr.Lays,Po.T.l,Po.T.p,Pd.T.k,Pd.T.f,Pd.T.v,Pd.T.l] at *
 refine ncall_of Tryz.func3 rfl (by decide) ?_
 (repeat' (first|(with_reducible first|(refine hK _ _ ?_;clear hK K)|(refine hB ?_;clear hA hB A B)|(refine hK _ ?_;clear hK K))|((with_reducible refine z25 ?_);intro K hK;(conv=>whnf))|(with_reducible refine z0 ?_)|((first|((with_reducible refine NIf.yes ?s ?_);case s=>(simp ;done))|((with_reducible refine NIf.no ?s ?_);case s=>(simp ;done))|((with_reducible refine NH.mk ?s ?_);case s=>(and_intros<;>first|with_reducible rfl|((with_reducible refine gKept ?_);exact rfl)|rfl))|((with_reducible refine NCall.isF 6 ?_);refine NCall.subE [0] (cF) rfl (by decide) rfl rfl ?_)|((with_reducible refine NCall.isF 9 ?_);refine NCall.subw [0] _ _ (cm) rfl (by decide) rfl ?_;rintro _ _ ⟨F1,a1,u1,hle1,hu1,rfl,rfl⟩;refine ⟨Nat.le_of_ble_eq_true rfl,_,rfl,?_⟩)|((with_reducible refine NCall.isF 8 ?_);refine NCall.subw [0] _ _ (cC F1 a1 u1 hu1) rfl (by decide) rfl ?_;rintro _ _ ⟨F2,w,hle2,hw,rfl,rfl⟩;refine ⟨Nat.le_of_ble_eq_true rfl,_,rfl,?_⟩)|((with_reducible refine NCall.isF 10 ?_);refine NCall.subw [0] _ _ (cD F2 (hle1.trans hle2)) rfl (by decide) rfl ?_;rintro _ _ ⟨F3,w3,hle3,hw3,rfl,rfl⟩;refine ⟨Nat.le_of_ble_eq_true rfl,_,rfl,?_⟩)|((with_reducible refine NCall.isF 12 ?_);refine NCall.subw [0] _ _ (cT F3 w (Tr.Row.mono hle3 hw)) rfl (by decide) rfl ?_;rintro _ _ ⟨F4,w4,hle4,hw4,rfl,rfl⟩;refine ⟨Nat.le_of_ble_eq_true rfl,_,rfl,?_⟩)|((with_reducible refine NCall.isF 11 ?_);refine NCall.subE [0] (cS F4 w4 w3 hw4 (Tr.Row.mono hle4 hw3)) rfl (by decide) rfl rfl ?_)|((with_reducible refine NCall.isF 13 ?_);refine NCall.subE [0] (cP F4 w (Tr.Row.mono (hle3.trans hle4) hw)) rfl (by decide) rfl rfl ?_)|((with_reducible refine NCall.isF 14 ?_);refine NCall.subE [0] (cQ F4 w3 (Tr.Row.mono hle4 hw3)) rfl (by decide) rfl rfl ?_)|((with_reducible refine NCall.isF 7 ?_);refine NCall.subE [0] (cw F4) rfl (by decide) rfl rfl ?_))<;>(conv=>whnf))|(with_reducible refine st_ordSout ?_)|((with_reducible refine gNOK ?_);(first|(refine st_ordK1 rfl (by kernel_rfl) rfl ?_;intro K hK;(conv=>whnf))|(refine st_ordK1g rfl (by kernel_rfl) rfl ?_;intro K hK;(conv=>whnf))|refine st_ordK0 rfl (by kernel_rfl) ?_|refine st_ordKA rfl rfl (by kernel_rfl) (by intro h;cases h) ?_))|((with_reducible refine gNEK ?_);(first|(refine st_eachK ?_ ?_;(intro K hK;(conv=>whnf)))|(refine st_eachKg rfl ?_ ?_;(intro K hK;(conv=>whnf)))|exact st_eachK0))|((with_reducible refine gX ?_);(first|refine st_orderS [0] rfl rfl (by kernel_rfl) _ rfl ?_|(with_reducible first|refine z3 ?_|refine z4 ?_|refine z6 ?_|refine z8 ?_)|((with_reducible refine z29 ?_);intro A B hA hB;(conv=>whnf))))|(with_reducible first|refine z1 ?_|refine z2 ?_)|((with_reducible refine gR ?_);(refine z31 rfl ?_;intro K hK;(conv=>whnf)))|((with_reducible refine gF ?_);(refine z33 rfl ?_;intro K hK;(conv=>whnf)))|((intro _;skip)<;>(conv=>whnf))))
 all_goals first | rfl | (exfalso;omega)
open Go.Sx Go.RowKit Go.ChangeShapes Go.WideShapes
theorem fit64 {x:Int} (h:(Lit.int .i64 x).wf=true) : -9223372036854775808≤x∧x≤9223372036854775807:=by
 have e1:IntKind.i64.min = -9223372036854775808:=by decide
 have e2:IntKind.i64.max=9223372036854775807:=by decide
 simp only [Lit.wf,e1,e2,Bool.and_eq_true,decide_eq_true_eq] at h
 exact h
theorem bulk_le {H:Type}:∀ (l:List Pd.T) (es:List (DataW H × List MemPlace)),l.length=es.length→(∀ (i:Nat) (p:Pd.T) (e:DataW H × List MemPlace),l[i]?=some p→es[i]?=some e→Pd.size p≤Rows.uptoBulk e.1)→Pd.sizeL l≤Rows.uptoBulkAll (es.map (·.1))
 | [],_,_,_=>by rw [Pd.sizeL];exact Nat.zero_le _
 | p::l,[],h,_=>by simp at h
 | p::l,e::es,h,hi=>by
  have h1:=hi 0 p e rfl rfl
  have h2:=bulk_le l es (by simpa using h) fun i q f hq hf=>hi (i+1) q f (by simpa using hq) (by simpa using hf)
  rw [Pd.sizeL,List.map_cons,Rows.uptoBulkAll]
  omega
section
variable {H:Type} {enc:TypeId × Value→H} {W:World} {spare:Nat→Bool} {held:Bool}
theorem open26 (t tS:TypeId) (fs:Array Field) (hT:Tryz.prog.underlying t=some (.struct fs)) (hS:Tryz.prog.underlying tS=some (.slice t)) (ti:TypeId) (hI:Tryz.prog.underlying ti=some (.int .i64))
  (hfs:fs.toList.map (fun f=>(f.type,f.offset))=[(ti,0),(ti,1),(ti,2),(tS,3)]) (hc:Tryz.prog.cellsOf t=4) (hci:Tryz.prog.cellsOf ti=1) (hcs:Tryz.prog.cellsOf tS=1) :
  ∀ (N fuel:Nat) (cs:List Value) (x:DataW H × List MemPlace),fuel≤N→DataW.trod enc Tryz.prog W 0 spare held fuel t cs=some x→∃ p:Pd.T,Pd.R (cellsW W) p cs∧Pd.in64 p∧Pd.size p≤Rows.uptoBulk x.1
 | 0,fuel,cs,x,hN,hx=>by
  obtain ⟨xs,n,h1,_⟩:=DataW.trod_struct hT hx
  omega
 | N+1,fuel,cs,x,hN,hx=>by
  obtain ⟨xs,n,h1,h2,hlen,hxl,hf⟩:=DataW.trod_struct hT hx
  have hfs4:fs.size=4:=by have:=congrArg List.length hfs;simpa using this
  have hat:∀ i (hi:i<4),∃ f,fs[i]?=some f∧(f.type,f.offset)=[(ti,0),(ti,1),(ti,2),(tS,3)][i]:=fun i hi=>by
   have hi':i<fs.size:=by omega
   refine ⟨fs[i],Array.getElem?_eq_getElem hi',?_⟩
   have:=congrArg (fun l=>l[i]?) hfs
   simp only [List.getElem?_map,Array.getElem?_toList,Array.getElem?_eq_getElem hi',Option.map_some,List.getElem?_eq_getElem (show i<[(ti,0),(ti,1),(ti,2),(tS,3)].length by simpa using hi),Option.some.injEq] at this
   exact this
  match cs,(hlen.trans hc) with
  | [c0,c1,c2,c3],_ =>
   match xs,(hxl.trans hfs4) with
   | [x0,x1,x2,x3],_ =>
    obtain ⟨f0,g0,e0⟩:=hat 0 (by decide)
    obtain ⟨f1,g1,e1⟩:=hat 1 (by decide)
    obtain ⟨f2,g2,e2⟩:=hat 2 (by decide)
    obtain ⟨f3,g3,e3⟩:=hat 3 (by decide)
    simp only [List.getElem_cons_zero,List.getElem_cons_succ,Prod.mk.injEq] at e0 e1 e2 e3
    have t0:=hf 0 f0 g0
    have t1:=hf 1 f1 g1
    have t2:=hf 2 f2 g2
    have t3:=hf 3 f3 g3
    rw [e0.1,e0.2,hci] at t0
    rw [e1.1,e1.2,hci] at t1
    rw [e2.1,e2.2,hci] at t2
    rw [e3.1,e3.2,hcs] at t3
    simp only [List.drop_zero,List.take_succ_cons,List.take_zero,List.drop_succ_cons,List.getElem?_cons_zero,List.getElem?_cons_succ] at t0 t1 t2 t3
    obtain ⟨k,ek,_,wk⟩:=DataW.trod_int hI t0
    obtain ⟨a,ea,_,wa⟩:=DataW.trod_int hI t1
    obtain ⟨v,ev,_,wv⟩:=DataW.trod_int hI t2
    cases ek
    cases ea
    cases ev
    rcases DataW.trod_slice hS t3 with ⟨es,_⟩ | ⟨b,len,cap,elems,rest,n',hn',es,ex3,_,hl,hm,hel,hat',_⟩
    ·cases es
     refine ⟨.mk k a v [],Pd.R.of (p:=.mk k a v []) (A:=none) (cap:=0) RowF.nil,by simp only [Pd.in64,Pd.in64L,and_true];exact ⟨fit64 wk,fit64 wa,fit64 wv⟩,?_⟩
     rw [Pd.size,Pd.sizeL,h2]
     simp only [Rows.uptoBulk]
     omega
    ·cases es
     have hel2:∀ i,i<len→∃ p:Pd.T,(∃ cs',cs'.length=4∧CellsF (cellsW W) b (i*4) cs'∧Pd.R (cellsW W) p cs')∧Pd.in64 p∧∀ e,elems[i]?=some e→Pd.size p≤Rows.uptoBulk e.1:=fun i hi=>by
      have h1:=hat' i hi
      rw [List.getElem?_eq_getElem (by omega),Option.bind_eq_some_iff] at h1
      obtain ⟨cs',h3,h4⟩:=h1
      obtain ⟨p,h5,h6,h7⟩:=open26 t tS fs hT hS ti hI hfs hc hci hcs N n' cs' _ (by omega) h4
      obtain ⟨_,h8,h9⟩:=World.cells?_some h3
      rw [hc] at h8 h9
      refine ⟨p,⟨cs',by omega,cellsF_of cs' _ fun j u hj=>?_,h5⟩,h6,fun e he=>?_⟩
      ·have:=h9 j (by have:=(List.getElem?_eq_some_iff.1 hj).1;omega)
       rw [add_of_add] at this
       exact this.trans hj
      ·rw [List.getElem?_eq_getElem (by omega)] at he
       cases he
       exact h7
     obtain ⟨l,hll,hl2⟩:=list_of hel2
     subst hll
     have hrow:Pd.Row (cellsW W) (.slice (some b) l.length cap) l:=⟨⟨some b,cap,rfl,hl,by simp⟩,fun i p hp=>by
      obtain ⟨⟨cs',h3,h4,h5⟩,_⟩:=hl2 i p hp
      exact ⟨cs',h5,h3,h4⟩⟩
     refine ⟨.mk k a v l,Pd.R.of (p:=.mk k a v l) (A:=some b) (cap:=cap) hrow,?_,?_⟩
     ·simp only [Pd.in64,Pd.in64L_iff]
      refine ⟨⟨fit64 wk,fit64 wa,fit64 wv⟩,fun p hp=>?_⟩
      obtain ⟨i,hi⟩:=List.getElem?_of_mem hp
      exact (hl2 i p hi).2.1
     ·have hb:=bulk_le l elems hel.symm fun i p e hp he=>(hl2 i p hp).2.2 e he
      have e3':x3.1 = .slice (elems.map (·.1)) (rest.map (·.1)):=by rw [ex3]
      rw [Pd.size,h2]
      simp only [List.map_cons,List.map_nil,Rows.uptoBulk,Rows.uptoBulkAll,e3']
      omega
end
theorem bulk27_le {H:Type}:∀ (l:List Po.T) (es:List (DataW H × List MemPlace)),l.length=es.length→(∀ (i:Nat) (p:Po.T) (e:DataW H × List MemPlace),l[i]?=some p→es[i]?=some e→Po.tot p≤Rows.uptoBulk e.1)→Po.totL l≤Rows.uptoBulkAll (es.map (·.1))
 | [],_,_,_=>by rw [Po.totL];exact Nat.zero_le _
 | p::l,[],h,_=>by simp at h
 | p::l,e::es,h,hi=>by
  have h1:=hi 0 p e rfl rfl
  have h2:=bulk27_le l es (by simpa using h) fun i q f hq hf=>hi (i+1) q f (by simpa using hq) (by simpa using hf)
  rw [Po.totL,List.map_cons,Rows.uptoBulkAll]
  omega
mutual
def Po.in64:Po.T→Prop
 | .mk k p f v l=>((-9223372036854775808≤k∧k≤9223372036854775807)∧(-9223372036854775808≤f∧f≤9223372036854775807)∧(-9223372036854775808≤v∧v≤9223372036854775807))∧Pd.in64 p∧Po.in64L l
def Po.in64L:List Po.T→Prop
 | []=>True
 | x::l=>Po.in64 x∧Po.in64L l
end
theorem Po.in64L_iff (l:List Po.T):Po.in64L l↔∀ p∈l,Po.in64 p:=by
 induction l with
 | nil=>simp [Po.in64L]
 | cons p l ih=>simp only [Po.in64L,ih,List.mem_cons,forall_eq_or_imp]
section
variable {H:Type} {enc:TypeId × Value→H} {W:World} {spare:Nat→Bool} {held:Bool}
theorem open27 (t tS:TypeId) (fs:Array Field) (hT:Tryz.prog.underlying t=some (.struct fs)) (hS:Tryz.prog.underlying tS=some (.slice t)) (ti:TypeId) (hI:Tryz.prog.underlying ti=some (.int .i64))
  (tP:TypeId) (hP:∀ (fuel:Nat) (cs:List Value) (x:DataW H × List MemPlace),DataW.trod enc Tryz.prog W 0 spare held fuel tP cs=some x→∃ p:Pd.T,Pd.R (cellsW W) p cs∧Pd.in64 p∧Pd.size p≤Rows.uptoBulk x.1)
  (hfs:fs.toList.map (fun f=>(f.type,f.offset))=[(ti,0),(tP,1),(ti,5),(ti,6),(tS,7)]) (hc:Tryz.prog.cellsOf t=8) (hci:Tryz.prog.cellsOf ti=1) (hcp:Tryz.prog.cellsOf tP=4) (hcs:Tryz.prog.cellsOf tS=1) :
  ∀ (N fuel:Nat) (cs:List Value) (x:DataW H × List MemPlace),fuel≤N→DataW.trod enc Tryz.prog W 0 spare held fuel t cs=some x→∃ p:Po.T,Po.R (cellsW W) p cs∧Po.in64 p∧Po.tot p≤Rows.uptoBulk x.1
 | 0,fuel,cs,x,hN,hx=>by
  obtain ⟨xs,n,h1,_⟩:=DataW.trod_struct hT hx
  omega
 | N+1,fuel,cs,x,hN,hx=>by
  obtain ⟨xs,n,h1,h2,hlen,hxl,hf⟩:=DataW.trod_struct hT hx
  have hfs4:fs.size=5:=by have:=congrArg List.length hfs;simpa using this
  have hat:∀ i (hi:i<5),∃ f,fs[i]?=some f∧(f.type,f.offset)=[(ti,0),(tP,1),(ti,5),(ti,6),(tS,7)][i]:=fun i hi=>by
   have hi':i<fs.size:=by omega
   refine ⟨fs[i],Array.getElem?_eq_getElem hi',?_⟩
   have:=congrArg (fun l=>l[i]?) hfs
   simp only [List.getElem?_map,Array.getElem?_toList,Array.getElem?_eq_getElem hi',Option.map_some,List.getElem?_eq_getElem (show i<[(ti,0),(tP,1),(ti,5),(ti,6),(tS,7)].length by simpa using hi),Option.some.injEq] at this
   exact this
  match cs,(hlen.trans hc) with
  | [c0,c1,c2,c3,c4,c5,c6,c7],_ =>
   match xs,(hxl.trans hfs4) with
   | [x0,x1,x2,x3,x4],_ =>
    obtain ⟨f0,g0,e0⟩:=hat 0 (by decide)
    obtain ⟨f1,g1,e1⟩:=hat 1 (by decide)
    obtain ⟨f2,g2,e2⟩:=hat 2 (by decide)
    obtain ⟨f3,g3,e3⟩:=hat 3 (by decide)
    obtain ⟨f4,g4,e4⟩:=hat 4 (by decide)
    simp only [List.getElem_cons_zero,List.getElem_cons_succ,Prod.mk.injEq] at e0 e1 e2 e3 e4
    have t0:=hf 0 f0 g0
    have t1:=hf 1 f1 g1
    have t2:=hf 2 f2 g2
    have t3:=hf 3 f3 g3
    have t4:=hf 4 f4 g4
    rw [e0.1,e0.2,hci] at t0
    rw [e1.1,e1.2,hcp] at t1
    rw [e2.1,e2.2,hci] at t2
    rw [e3.1,e3.2,hci] at t3
    rw [e4.1,e4.2,hcs] at t4
    simp only [List.drop_zero,List.take_succ_cons,List.take_zero,List.drop_succ_cons,List.getElem?_cons_zero,List.getElem?_cons_succ] at t0 t1 t2 t3 t4
    obtain ⟨k,ek,_,wk⟩:=DataW.trod_int hI t0
    obtain ⟨q,hq,hqi,hqs⟩:=hP _ _ _ t1
    obtain ⟨a,ea,_,wa⟩:=DataW.trod_int hI t2
    obtain ⟨v,ev,_,wv⟩:=DataW.trod_int hI t3
    cases ek
    cases ea
    cases ev
    obtain ⟨pA,pcap,hprow,hpe⟩:=hq.inv
    cases hpe
    rcases DataW.trod_slice hS t4 with ⟨es,_⟩ | ⟨b,len,cap,elems,rest,n',hn',es,ex3,_,hl,hm,hel,hat',_⟩
    ·cases es
     refine ⟨.mk k q a v [],Po.R.of (x:=.mk k q a v []) (A:=none) (cap:=0) ⟨hprow,RowF.nil⟩,by simp only [Po.in64,Po.in64L,and_true];exact ⟨⟨fit64 wk,fit64 wa,fit64 wv⟩,hqi⟩,?_⟩
     rw [Po.tot_mk,Po.totL,h2]
     simp only [List.map_cons,List.map_nil,Rows.uptoBulk,Rows.uptoBulkAll]
     omega
    ·cases es
     have hel2:∀ i,i<len→∃ p:Po.T,(∃ cs',cs'.length=8∧CellsF (cellsW W) b (i*8) cs'∧Po.R (cellsW W) p cs')∧Po.in64 p∧∀ e,elems[i]?=some e→Po.tot p≤Rows.uptoBulk e.1:=fun i hi=>by
      have h1:=hat' i hi
      rw [List.getElem?_eq_getElem (by omega),Option.bind_eq_some_iff] at h1
      obtain ⟨cs',h3,h4⟩:=h1
      obtain ⟨p,h5,h6,h7⟩:=open27 t tS fs hT hS ti hI tP hP hfs hc hci hcp hcs N n' cs' _ (by omega) h4
      obtain ⟨_,h8,h9⟩:=World.cells?_some h3
      rw [hc] at h8 h9
      refine ⟨p,⟨cs',by omega,cellsF_of cs' _ fun j u hj=>?_,h5⟩,h6,fun e he=>?_⟩
      ·have:=h9 j (by have:=(List.getElem?_eq_some_iff.1 hj).1;omega)
       rw [add_of_add] at this
       exact this.trans hj
      ·rw [List.getElem?_eq_getElem (by omega)] at he
       cases he
       exact h7
     obtain ⟨l,hll,hl2⟩:=list_of hel2
     subst hll
     have hrow:Po.Row (cellsW W) (.slice (some b) l.length cap) l:=⟨⟨some b,cap,rfl,hl,by simp⟩,fun i p hp=>by
      obtain ⟨⟨cs',h3,h4,h5⟩,_⟩:=hl2 i p hp
      exact ⟨cs',h5,h3,h4⟩⟩
     refine ⟨.mk k q a v l,Po.R.of (x:=.mk k q a v l) (A:=some b) (cap:=cap) ⟨hprow,hrow⟩,?_,?_⟩
     ·simp only [Po.in64,Po.in64L_iff]
      refine ⟨⟨fit64 wk,fit64 wa,fit64 wv⟩,hqi,fun p hp=>?_⟩
      obtain ⟨i,hi⟩:=List.getElem?_of_mem hp
      exact (hl2 i p hi).2.1
     ·have hb:=bulk27_le l elems hel.symm fun i p e hp he=>(hl2 i p hp).2.2 e he
      have e4':x4.1 = .slice (elems.map (·.1)) (rest.map (·.1)):=by rw [ex3]
      rw [Po.tot_mk,h2]
      simp only [List.map_cons,List.map_nil,Rows.uptoBulk,Rows.uptoBulkAll,e4']
      omega
end
end Go.Proofs.YtaolcaggdddkpaaGreat
