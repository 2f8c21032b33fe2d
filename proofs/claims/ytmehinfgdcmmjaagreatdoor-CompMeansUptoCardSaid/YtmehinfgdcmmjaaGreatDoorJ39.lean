import Derived.Test.YtmehinfgdcmmjaaGreatDoorJ29
import Derived.Test.YtmehinfgdcmmjaaGreatDoorJ38
import Derived.Test.YtmehinfgdcmmjaaGreatDoorJ30
import Derived.Test.YtmehinfgdcmmjaaGreatDoorJ28
import Derived.Test.YtmehinfgdcmmjaaGreatDoorJ19
import Derived.Test.YtmehinfgdcmmjaaGreatDoorJ8
import Derived.Test.YtmehinfgdcmmjaaGreatDoorJ13
namespace Go.Proofs.YtmehinfgdcmmjaaGreatDoor
open Go.Sx
set_option maxRecDepth 20000
set_option maxHeartbeats 8000000
set_option linter.unusedVariables false
theorem Tr.ans_facts (sw:Int) (x:Po.T) (hf:Tr.few x=true):(Tr.ans sw x).1.length≤1000∧(∀ c∈(Tr.ans sw x).1,c.out.length≤1000)∧(Po.right x=true→Po.cells (Po.spec sw x)≤4096)∧(Po.right x=true→Tr.cnt (Po.spec sw x) Tr.order≤1000000):=by
 have h3:=(Tr.few_iff hf).1
 by_cases hr:Po.right x=true
 ·have hxf:=Po.right_fits' hr
  have h1:=Nat.le_trans (Tr.few_cells sw x hxf 5) h3
  have h2:=Nat.le_trans (Tr.few_cnt sw x hxf) h3
  have hl:=Tr.cases_len sw (Po.spec sw x) Tr.order Tr.start
  unfold Tr.ans
  rw [if_pos hr]
  refine ⟨by show (Tr.all sw x).length≤1000;unfold Tr.all;omega,fun c hc=>Nat.le_trans (Tr.cases_out_len sw _ 64 (fun s=>Po.runs_64 sw _ (Po.spec_right sw x hr) s) Tr.order Tr.start c hc) (by decide),fun _=>Nat.le_trans h1 (by decide),fun _=>Nat.le_trans h2 (by decide)⟩
 ·unfold Tr.ans
  rw [if_neg hr]
  exact ⟨Nat.zero_le _,fun c hc=>(by cases hc),fun h=>absurd h hr,fun h=>absurd h hr⟩
end Go.Proofs.YtmehinfgdcmmjaaGreatDoor
namespace Go.Proofs.YtmehinfgdcmmjaaGreatDoor
open Go.Sx
set_option maxRecDepth 20000
set_option linter.unusedSimpArgs false
set_option linter.unusedVariables false
set_option maxHeartbeats 4000000
set_option linter.unusedVariables false
namespace Cm
theorem out_ok {tx:List UInt8} {ls:List Lx.B} (hw:Ps.bs tx=some ls) (hl:ls.length≤500) {x:Po.T} (hp:Ps.whole (ls++[(⟨4,0,[]⟩:Lx.B)]) (Ps.rows (ls++[(⟨4,0,[]⟩:Lx.B)]) (Ps.step (ls++[(⟨4,0,[]⟩:Lx.B)]) (ls++[(⟨4,0,[]⟩:Lx.B)]).length) 0) = .ok x 0):Ps.out27 tx=(x,0,0):=by
 obtain ⟨L,hL,hm⟩:=Ps.toks_of hw
 have hlen:L.length≤500:=by rw [← List.length_map (f:=(·.1)),hm];exact hl
 have hb:=Lx.res_b tx L
 rw [hm] at hb
 rcases Lx.all_cases tx with ⟨L',h1,_,ha⟩ | ⟨h1,_⟩ | ⟨h1,_⟩
 ·rw [hL] at h1
  injection h1 with h1
  subst h1
  unfold Ps.out27 Ps.q27
  rw [ha]
  unfold Ps.out
  dsimp only
  rw [hb,hp]
 ·rw [hL] at h1;cases h1
 ·exact absurd ⟨L,hL,hlen⟩ h1
theorem ex_out:Ps.out27 exT=(exX,0,0):=out_ok ex_words (by decide) ex_parse
def exTop:Tp.T:=⟨1,[],[⟨0,2⟩]⟩
theorem ex_right:Tp.right exTop=true:=by decide +kernel
theorem ex_few:Tr.few exX=true:=by decide +kernel
theorem fit_of {x:Po.T} (hs:Po.tot x≤1000000000) (h:Tr.few x=true):Fit x :=
 ⟨hs,fun sw=>(Tr.ans_facts sw x h).2.2.1,fun sw=>(Tr.ans_facts sw x h).2.2.2,fun sw=>(Tr.ans_facts sw x h).1,fun sw=>(Tr.ans_facts sw x h).2.1⟩
theorem ex_comp:comp true exTop (exX,0,0) 9=([[r0,r1]],0,0):=by decide +kernel
theorem ex_t0:Ru.text r0 ⟨-1,0,1,0,0,0,255,0,0⟩=[50,32,100,115,116,32,49,58,32,111,117,116,32,50]:=by decide +kernel
theorem ex_t1:Ru.text r1 ⟨-1,0,0,0,0,0,0,0,0⟩=[49,32,97,110,121,58,32,100,114,111,112]:=by decide +kernel
theorem r0_ok:Ru.ok 8 r0:=by decide +kernel
theorem r1_ok:Ru.ok 8 r1:=by decide +kernel
end Cm
theorem awake32_comp (F:Heap) (b:Nat) :
  NCall Tryz.prog 24 [.str Cm.exT,.agg [.int .i64 1,.raw (.slice none 0 0),.sl 1 (.slice (some ⟨b,0,none⟩) 1 1) 1],.int .i64 9] [hpB F,⟨⟨b,0,none⟩,[.int .i64 0,.int .i64 2],.row (.slice (some ⟨b,0,none⟩) 1 1) 62 2 1⟩]
   fun r m=>∃ G v A cap A0 k0 A1 k1,F.le G∧(SlOk v 1∧SlOk (.slice A 2 cap) 2∧SlOk (.slice A0 1 k0) 1∧SlOk (.slice A1 0 k1) 0)∧G.c ((addrOf v).add 0) (.slice A 2 cap)∧(Cm.ARow G (.slice A0 1 k0) Cm.r0.acts∧Cm.Cell G (.slice A 2 cap) 0 Cm.r0 A0 k0)∧(Cm.ARow G (.slice A1 0 k1) Cm.r1.acts∧Cm.Cell G (.slice A 2 cap) 1 Cm.r1 A1 k1)∧r = .tup [.hs v 1,.int .i64 0,.int .i64 0]∧m=[hpB G,hpB noHeap]:=by
 have hok:SlOk (.slice (some ⟨b,0,none⟩) 1 1) 1:=⟨_,_,rfl,Nat.le_refl _,fun h=>by cases h⟩
 generalize hw:Value.slice (some ⟨b,0,none⟩) 1 1=w at *
 have a3:(⟨b,0,none⟩:Addr)=addrOf w:=by rw [← hw];rfl
 rw [a3]
 have e8:denL ([.int .i64 0,.int .i64 2]:List AV)=[(⟨0,2⟩:Tp.Hs)].flatMap Tp.hsV:=rfl
 have r8:=rowF_new (F:=F) (sz:=2) (enc:=Tp.hsV) hok e8 (fun x _=>rfl)
 have hat:Tp.At (addF F (addrOf w) (denL ([.int .i64 0,.int .i64 2]:List AV))) Cm.exTop (.slice none 0 0) w:=⟨RowF.nil,r8⟩
 have c:=compile32_c _ Cm.exT (by decide) Cm.exTop (.slice none 0 0) w true hat (by decide) (by decide) (fun G hG=>by
  have h:=topo17_c G Cm.exTop (.slice none 0 0) w (Tp.At.mono hG hat) (by decide) (by decide)
  rwa [Cm.ex_right] at h) (fun _=>by decide) 9 (fun _=>by rw [Cm.ex_out];exact Cm.fit_of (by decide +kernel) Cm.ex_few) (by rw [Cm.ex_out];decide +kernel)
 rw [Cm.ex_out,Cm.ex_comp] at c
 refine (NCall.pre (args:=[.str Cm.exT,.agg [.int .i64 1,.raw (.slice none 0 0),.sl 1 w 1],.int .i64 9]) c rfl (MemFits.freeze (m:=[]))).fits fun r m' hr=>?_
 obtain ⟨G,v,h1,h2,rfl,rfl⟩:=hr
 obtain ⟨A,cap,h3,h4⟩:=h2.get (i:=0) (T:=[Cm.r0,Cm.r1]) rfl
 obtain ⟨A0,k0,h5,h6⟩:=h3.get (i:=0) (x:=Cm.r0) rfl
 obtain ⟨A1,k1,h7,h8⟩:=h3.get (i:=1) (x:=Cm.r1) rfl
 exact ⟨_,_,rfl,(MemFits.noHeap _).trans (MemFits.pick [1,0] (by decide) rfl),G,v,A,cap,A0,k0,A1,k1,addF.old.trans h1,⟨h2.ok,h3.ok,h5.ok,h7.ok⟩,h4,⟨h5,h6⟩,⟨h7,h8⟩,rfl,rfl⟩
theorem awake32_c (F:Heap) (hT:TabF F):NCall Tryz.prog 8 [] [hpB F] fun r m=>r = .bool true∧m=[hpB F]:=by
 refine NCall.fits (K:=fun r m=>r = .bool true∧∃ F',F.le F'∧MemFits m [hpB F']) ?_ fun r m' ⟨h1,F',h2,h3⟩=>⟨r,_,rfl,h3.trans (MemFits.less h2 []),h1,rfl⟩
 have cc:=fun b=>awake32_comp F b
 have ct0:=fun G (hG:F.le G) A k (hA:Cm.ARow G (.slice A 1 k) Cm.r0.acts)=>text10_c G (hT.mono hG) (.slice A 1 k) Cm.r0 hA (Cm.in64_of Cm.r0_ok (by decide)) (by decide) (by decide) ⟨-1,0,1,0,0,0,255,0,0⟩ rfl ((Mt.N.ok_iff _).1 Cm.r0_ok.2.2.1)
 have ct1:=fun G (hG:F.le G) A k (hA:Cm.ARow G (.slice A 0 k) Cm.r1.acts)=>text10_c G (hT.mono hG) (.slice A 0 k) Cm.r1 hA (Cm.in64_of Cm.r1_ok (by decide)) (by decide) (by decide) ⟨-1,0,0,0,0,0,0,0,0⟩ rfl ((Mt.N.ok_iff _).1 Cm.r1_ok.2.2.1)
 rw [Cm.ex_t0] at ct0
 rw [Cm.ex_t1] at ct1
 have ct0:∀ G (hG:F.le G) A k (hA:Cm.ARow G (.slice A 1 k) Cm.r0.acts),NCall Tryz.prog 25 [.agg [.int .i64 2,.int .i64 (-1),.int .i64 0,.int .i64 1,.int .i64 0,.int .i64 0,.int .i64 0,.int .i64 255,.int .i64 0,.int .i64 0,.hs (.slice A 1 k) 1]] [hpB G] fun r m=>r = .str [50,32,100,115,116,32,49,58,32,111,117,116,32,50]∧m=[hpB G]:=ct0
 have ct1:∀ G (hG:F.le G) A k (hA:Cm.ARow G (.slice A 0 k) Cm.r1.acts),NCall Tryz.prog 25 [.agg [.int .i64 1,.int .i64 (-1),.int .i64 0,.int .i64 0,.int .i64 0,.int .i64 0,.int .i64 0,.int .i64 0,.int .i64 0,.int .i64 0,.hs (.slice A 0 k) 0]] [hpB G] fun r m=>r = .str [49,32,97,110,121,58,32,100,114,111,112]∧m=[hpB G]:=ct1
 have cc:=fun b=>(cc b).mono (K':=fun r m=>∃ G v A cap A0 k0 A1 k1,F.le G∧(SlOk v 1∧SlOk (.slice A 2 cap) 2∧SlOk (.slice A0 1 k0) 1∧SlOk (.slice A1 0 k1) 0)∧(G.c ((addrOf v).add 0) (.slice A 2 cap)∧Cm.ARow G (.slice A0 1 k0) Cm.r0.acts∧Cm.ARow G (.slice A1 0 k1) Cm.r1.acts)∧(G.c ((addrOf (.slice A 2 cap)).add 0) (.int .i64 2)∧G.c ((addrOf (.slice A 2 cap)).add 1) (.int .i64 (-1))∧G.c ((addrOf (.slice A 2 cap)).add 2) (.int .i64 0)∧G.c ((addrOf (.slice A 2 cap)).add 3) (.int .i64 1)∧G.c ((addrOf (.slice A 2 cap)).add 4) (.int .i64 0)∧G.c ((addrOf (.slice A 2 cap)).add 5) (.int .i64 0)∧G.c ((addrOf (.slice A 2 cap)).add 6) (.int .i64 0)∧G.c ((addrOf (.slice A 2 cap)).add 7) (.int .i64 255)∧G.c ((addrOf (.slice A 2 cap)).add 8) (.int .i64 0)∧G.c ((addrOf (.slice A 2 cap)).add 9) (.int .i64 0)∧G.c ((addrOf (.slice A 2 cap)).add 10) (.slice A0 1 k0))∧(G.c ((addrOf (.slice A 2 cap)).add 11) (.int .i64 1)∧G.c ((addrOf (.slice A 2 cap)).add 12) (.int .i64 (-1))∧G.c ((addrOf (.slice A 2 cap)).add 13) (.int .i64 0)∧G.c ((addrOf (.slice A 2 cap)).add 14) (.int .i64 0)∧G.c ((addrOf (.slice A 2 cap)).add 15) (.int .i64 0)∧G.c ((addrOf (.slice A 2 cap)).add 16) (.int .i64 0)∧G.c ((addrOf (.slice A 2 cap)).add 17) (.int .i64 0)∧G.c ((addrOf (.slice A 2 cap)).add 18) (.int .i64 0)∧G.c ((addrOf (.slice A 2 cap)).add 19) (.int .i64 0)∧G.c ((addrOf (.slice A 2 cap)).add 20) (.int .i64 0)∧G.c ((addrOf (.slice A 2 cap)).add 21) (.slice A1 0 k1))∧r = .tup [.hs v 1,.int .i64 0,.int .i64 0]∧m=[hpB G,hpB noHeap]) fun r m ⟨G,v,A,cap,A0,k0,A1,k1,h1,h2,h3,⟨h4,d0,d1,d2,d3,d4,d5,d6,d7,d8,d9,d10⟩,⟨h5,e0,e1,e2,e3,e4,e5,e6,e7,e8,e9,e10⟩,h6,h7⟩ =>
  ⟨G,v,A,cap,A0,k0,A1,k1,h1,h2,⟨h3,h4,h5⟩,⟨d0,d1,d2,d3,d4,d5,d6,d7,d8,d9,d10⟩,⟨e0,e1,e2,e3,e4,e5,e6,e7,e8,e9,e10⟩,h6,h7⟩
 unfold Cm.exT at cc
 refine ncall_of Tryz.func8 rfl (by decide) ?_
 repeat' first|((try intro K hK);(with_reducible refine gC ?_);first|(refine cN [0,1] (cc _) ?_;rintro _ _ ⟨G,v,A,cap,A0,k0,A1,k1,h1,⟨o1,o2,o3,o4⟩,⟨l1,a0,a1⟩,⟨d0,d1,d2,d3,d4,d5,d6,d7,d8,d9,d10⟩,⟨e0,e1,e2,e3,e4,e5,e6,e7,e8,e9,e10⟩,rfl,rfl⟩;refine cR ?_)|refine cS [0] (ct0 G h1 A0 k0 a0) ?_|refine cS [0] (ct1 G h1 A1 k1 a1) ?_)|((first|intro A B hA hB|intro K hK|skip);first|((with_reducible refine NIf.yes ?s ?_);(case s=>simp ;done);(conv=>whnf))|((with_reducible refine NIf.no ?s ?_);(case s=>simp ;done);(conv=>whnf)))|(refine sxZ ?_;(try clear hK K);try clear hA hB A B)|refine sxW ?_ ?_<;>intro _|(intro K hK _;(conv=>whnf))
 all_goals exact ⟨congrArg AV.bool (decide_eq_true rfl),G,h1,MemFits.pre 1 rfl⟩
end Go.Proofs.YtmehinfgdcmmjaaGreatDoor
namespace Go.Proofs.YtmehinfgdcmmjaaGreatDoor
open Go.Sx
set_option maxRecDepth 20000
set_option linter.unusedSimpArgs false
set_option linter.unusedVariables false
set_option maxHeartbeats 8000000
set_option linter.unusedVariables false
namespace Cm
theorem rule_ok {n k:Nat} {c:Tr.C} (hn:n≤1000) (hs:okS c.s) (ho:∀ u∈c.out,okS u):Ru.ok 8 (rule n k c):=by
 refine ⟨?_,?_,mt_ok hs,acts_ok hs ho⟩
 ·show (0:Int)≤((n - k:Nat):Int);omega
 ·show ((n - k:Nat):Int)<65536;omega
theorem tbl_facts {C:List Tr.C} {e room:Int} (hn:C.length≤1000) (hok:∀ c∈C,okS c.s∧∀ u∈c.out,okS u) :
  (tbl C e room).1.length≤1000∧(∀ x∈(tbl C e room).1,Ru.ok 8 x)∧(∀ i j (hi:i<(tbl C e room).1.length) (hj:j<(tbl C e room).1.length),i<j→(tbl C e room).1[j].prio<(tbl C e room).1[i].prio)∧((tbl C e room).2=0→((tbl C e room).1.length:Int)≤room):=by
 have hnil:∀ v:Int,¬ v=0→([]:List Ru.R).length≤1000∧(∀ x∈([]:List Ru.R),Ru.ok 8 x)∧(∀ i j (hi:i<([]:List Ru.R).length) (hj:j<([]:List Ru.R).length),i<j→([]:List Ru.R)[j].prio<([]:List Ru.R)[i].prio)∧(v=0→(([]:List Ru.R).length:Int)≤room):=fun v hv =>
  ⟨by simp,fun x hx=>(by cases hx),fun i j hi hj=>absurd hi (Nat.not_lt_zero _),fun h=>absurd h hv⟩
 unfold tbl
 split
 ·rename_i h;exact hnil e h
 ·split
  ·rename_i h;exact hnil _ h
  ·split
   ·exact hnil 6 (by decide)
   ·rename_i h
    have hlen:=rules_len C.length C 0
    refine ⟨by dsimp only;omega,fun x hx=>?_,fun i j hi hj hij=>?_,fun _=>by dsimp only;omega⟩
    ·obtain ⟨k,hk⟩:=List.getElem?_of_mem hx
     have hlt:k<C.length:=by
      have:=(List.getElem?_eq_some_iff.1 hk).1
      dsimp only at this
      omega
     dsimp only at hk
     rw [rules_at C.length C 0 k hlt] at hk
     injection hk with hk
     have:=hok _ (List.getElem_mem hlt)
     rw [← hk]
     exact rule_ok hn this.1 this.2
    ·dsimp only at hi hj ⊢
     have h1:=rules_at C.length C 0 i (by omega)
     have h2:=rules_at C.length C 0 j (by omega)
     rw [List.getElem?_eq_getElem hi] at h1
     rw [List.getElem?_eq_getElem hj] at h2
     injection h1 with h1
     injection h2 with h2
     rw [h1,h2]
     show ((C.length - (0+j):Nat):Int)<((C.length - (0+i):Nat):Int)
     omega
theorem ans_ok (sw:Int) (x:Po.T):∀ c∈(Tr.ans sw x).1,okS c.s∧∀ u∈c.out,okS u:=by
 unfold Tr.ans
 split
 ·rename_i hr
  exact all_ok (Po.right_fits' hr)
 ·intro c hc;cases hc
end Cm
end Go.Proofs.YtmehinfgdcmmjaaGreatDoor
namespace Go.Proofs.YtmehinfgdcmmjaaGreatDoor
open Go.Sx
set_option maxRecDepth 20000
set_option linter.unusedVariables false
namespace Cm
open Po (S)
def p4 (t:S):Ac.P4:=⟨t.p0,t.p1,t.p2,t.p3⟩
def toS (s:Ac.S):S:=⟨s.port,s.p.a,s.p.b,s.p.c,s.p.d⟩
def pick (a b:Int):Int:=if 0≤b then b else a
def setAll (p:Ac.P4) (s:S):Ac.P4:=⟨pick p.a s.p0,pick p.b s.p1,pick p.c s.p2,pick p.d s.p3⟩
theorem fold_set1 (c:Ac.P4) (f v:Int) (hf:0≤f∧f≤3) (hv:v = -1∨(0≤v∧v≤Pd.top f)) (p:Ac.P4) (o:List Ac.S):(set1 f v).foldl (Ac.step c) (p,o)=(if 0≤v then p.set f v else p,o):=by
 unfold set1
 by_cases h:0≤v
 ·rw [if_pos h,if_pos h,List.foldl_cons,List.foldl_nil,Ac.step_1 rfl]
  have hval:Ac.valid f v:=⟨hf.1,by omega,h,by rw [← top_eq hf];omega⟩
  show ((if Ac.valid f v then p.set f v else p),o)=_
  rw [if_pos hval]
 ·rw [if_neg h,if_neg h];rfl
theorem fold_sets (c:Ac.P4) {s:S} (h:okS s) (p:Ac.P4) (o:List Ac.S):(sets s).foldl (Ac.step c) (p,o)=(setAll p s,o):=by
 have h0:=h 0 (by decide)
 have h1:=h 1 (by decide)
 have h2:=h 2 (by decide)
 have h3:=h 3 (by decide)
 unfold sets
 rw [List.foldl_append,List.foldl_append,List.foldl_append,fold_set1 c 0 s.p0 (by decide) h0,fold_set1 c 1 s.p1 (by decide) h1,fold_set1 c 2 s.p2 (by decide) h2,fold_set1 c 3 s.p3 (by decide) h3]
 unfold setAll pick
 obtain ⟨pa,pb,pc,pd⟩:=p
 congr 1
 by_cases k0:0≤s.p0<;>by_cases k1:0≤s.p1<;>by_cases k2:0≤s.p2<;>by_cases k3:0≤s.p3<;>simp [k0,k1,k2,k3,Ac.P4.set]
theorem sets_none {s:S} (h:(sets s).isEmpty=true) (p:Ac.P4):setAll p s=p:=by
 unfold sets at h
 rw [List.isEmpty_iff] at h
 simp only [List.append_eq_nil_iff] at h
 obtain ⟨⟨⟨h0,h1⟩,h2⟩,h3⟩:=h
 have key:∀ {f v a:Int},set1 f v=[]→pick a v=a:=fun {f v a} h=>by
  unfold set1 at h
  unfold pick
  split at h
  ·cases h
  ·rename_i hn;rw [if_neg hn]
 unfold setAll
 rw [key h0,key h1,key h2,key h3]
theorem run_st (cp:Int) (p:Ac.P4):∀ (l:List S),(∀ u∈l,okS u)→∀ (o:List Ac.A × Bool) (q:Ac.P4),(o.2=false→q=p)→(Ac.st p o.1).1=q→((l.foldl (step cp) o).1.foldl (Ac.step p) (p,[])).2=(Ac.st p o.1).2++l.map fun u=>⟨port cp u,setAll p u⟩
 | [],_,o,q,_,_=>by rw [List.foldl_nil,List.map_nil,List.append_nil];rfl
 | u::l,hl,o,q,hq,he=>by
  have hu:=hl u (List.mem_cons_self ..)
  have h1:Ac.st p (step cp o u).1=(setAll p u,(Ac.st p o.1).2++[⟨port cp u,setAll p u⟩]):=by
   unfold step Ac.st
   rw [List.foldl_append,List.foldl_append,List.foldl_append]
   have e0:o.1.foldl (Ac.step p) (p,[])=(q,(Ac.st p o.1).2):=by rw [← he];rfl
   rw [e0]
   have e1:(back o.2).foldl (Ac.step p) (q,(Ac.st p o.1).2)=(p,(Ac.st p o.1).2):=by
    unfold back
    cases ho:o.2 with
    | true=>rw [if_pos rfl,List.foldl_cons,List.foldl_nil,Ac.step_3 rfl]
    | false=>rw [if_neg (by decide),List.foldl_nil,hq ho]
   rw [e1,fold_sets p hu,List.foldl_cons,List.foldl_nil,Ac.step_2 rfl]
  rw [List.foldl_cons,run_st cp p l (fun w hw=>hl w (List.mem_cons_of_mem _ hw)) (step cp o u) (setAll p u) (fun h=>sets_none (by simpa [step] using h) p) (by rw [h1]),h1,List.map_cons,List.append_assoc]
  rfl
theorem run_acts {c:Tr.C} {t:S} (h0:(acts c).2=0) (ho:∀ u∈c.out,okS u) (hc:c.s.port = -1∨c.s.port=t.port):(Ac.run (p4 t) (acts c).1).map toS=c.out.map (Tr.sub t):=by
 have hp:ported c.s.port c.out:=by
  unfold acts at h0
  split at h0
  ·assumption
  ·exact absurd h0 (by decide)
 have h1:(acts c).1=(st c.s.port c.out).1:=by
  unfold acts at h0 ⊢
  rw [if_pos hp] at h0 ⊢
  split at h0
  ·exact absurd h0 (by decide)
  ·rename_i h;rw [if_neg h]
 rw [h1]
 have h2:=run_st c.s.port (p4 t) c.out ho ([],false) (p4 t) (fun _=>rfl) rfl
 have h3:Ac.run (p4 t) (st c.s.port c.out).1=c.out.map fun u=>⟨port c.s.port u,setAll (p4 t) u⟩:=h2
 rw [h3,List.map_map]
 refine List.map_congr_left fun u hu=>?_
 have k0:u.p0 = -1∨(0≤u.p0∧u.p0≤Pd.top 0):=ho u hu 0 (by decide)
 have k1:u.p1 = -1∨(0≤u.p1∧u.p1≤Pd.top 1):=ho u hu 1 (by decide)
 have k2:u.p2 = -1∨(0≤u.p2∧u.p2≤Pd.top 2):=ho u hu 2 (by decide)
 have k3:u.p3 = -1∨(0≤u.p3∧u.p3≤Pd.top 3):=ho u hu 3 (by decide)
 have k4:=ho u hu 4 (by decide)
 have hpu:=hp u hu
 have key:∀ {a v tp:Int},v = -1∨(0≤v∧v≤tp)→pick a v=if v = -1 then a else v:=fun {a v tp} h=>by
  unfold pick
  rcases h with h | h
  ·rw [if_neg (by omega),if_pos h]
  ·rw [if_pos h.1,if_neg (by omega)]
 have e4:port c.s.port u=if u.port = -1 then t.port else u.port:=by
  have k4:u.port = -1∨(0≤u.port∧u.port≤Pd.top 4):=k4
  unfold port at hpu ⊢
  rcases k4 with h | h
  ·rw [if_pos (by omega)] at hpu ⊢
   rw [if_pos h]
   omega
  ·rw [if_neg (by omega),if_neg (by omega)]
 show toS ⟨port c.s.port u,setAll (p4 t) u⟩=Tr.sub t u
 unfold toS Tr.sub setAll p4
 rw [e4,key k0,key k1,key k2,key k3]
def nM (m:Mt.M):Mt.N:=⟨m.p,m.v0.toNat,m.v1.toNat,m.v2.toNat,m.v3.toNat,m.m0.toNat,m.m1.toNat,m.m2.toNat,m.m3.toNat⟩
def kt (t:S) (f:Nat):Nat:=match f with | 0=>t.p0.toNat | 1=>t.p1.toNat | 2=>t.p2.toNat | _=>t.p3.toNat
def hitR (t:S) (y:Ru.R):Bool:=decide (Mt.hits (nM y.m) t.port (kt t))
theorem hit_f {f v a:Int} (hf:0≤f∧f≤3) (hv:v = -1∨(0≤v∧v≤Pd.top f)) (ha:0≤a∧a≤Pd.top f):(a.toNat ^^^ (vf v).toNat) &&& (mf f v).toNat=0↔(v = -1∨v=a):=by
 have hx:∀ n a b:Nat,a<2 ^ n→b<2 ^ n→((a ^^^ b) &&& (2 ^ n - 1)=0↔b=a):=fun n a b h1 h2=>by
  rw [Nat.and_two_pow_sub_one_eq_mod,Nat.mod_eq_of_lt (Nat.xor_lt_two_pow h1 h2)]
  constructor
  ·intro h
   refine Nat.eq_of_testBit_eq fun i=>?_
   have h3:=congrArg (fun x=>x.testBit i) h
   simp only [Nat.testBit_xor,Nat.zero_testBit] at h3
   cases ha:a.testBit i<;>cases hb:b.testBit i<;>simp_all
  ·rintro rfl;exact Nat.xor_self _
 unfold vf mf
 rcases hv with rfl | hv
 ·rw [if_neg (by decide),if_neg (by decide)]
  simp
 ·rw [if_pos hv.1,if_pos hv.1]
  have h4:f=0∨f=1∨f=2∨f=3:=by omega
  have h8:Mt.top f=255∧Pd.top f=255∨Mt.top f=15∧Pd.top f=15:=by rcases h4 with rfl | rfl | rfl | rfl<;>decide
  rcases h8 with ⟨h8,h9⟩ | ⟨h8,h9⟩
  ·rw [h8]
   rw [h9] at hv ha
   have:=hx 8 a.toNat v.toNat (by omega) (by omega)
   rw [show ((255:Int).toNat)=2 ^ 8 - 1 from rfl,this]
   omega
  ·rw [h8]
   rw [h9] at hv ha
   have:=hx 4 a.toNat v.toNat (by omega) (by omega)
   rw [show ((15:Int).toNat)=2 ^ 4 - 1 from rfl,this]
   omega
end Cm
end Go.Proofs.YtmehinfgdcmmjaaGreatDoor
