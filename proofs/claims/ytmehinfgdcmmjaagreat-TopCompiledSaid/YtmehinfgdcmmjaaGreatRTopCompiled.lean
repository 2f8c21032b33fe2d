/- TopCompiled: for every text there are all tables, or a typed error and none, and for each packet at each port of each switch the table sends exactly the results of the policy. Conditions: those of the given statement (texts of at most 600 bytes, valid policies of at most 300 cells, at most 30 links and 12 hosts, valid packets, ports from 0 to 7). -/
import Derived.Test.YtmehinfgdcmmjaaGreatJ45
import Derived.Test.YtmehinfgdcmmjaaGreatRows
import Derived.ProofKit
import Derived.OpenShut
import Derived.ChangeOld
import Derived.Carry
namespace Go.Proofs.YtmehinfgdcmmjaaGreat.topCompiledRow
open Go.ChangeShapes Go.WideShapes Go.ChangeAt Go.RowKit Go.Sx
open Go.ChangeMaps (open_string shut_string)
theorem own:ownKnob Tryz.prog.godebug=none:=by kernel_rfl
theorem laidOut:laidOutB Tryz.prog=true:=by kernel_rfl
theorem fit_i64 {x:Int} (h:(Lit.int .i64 x).wf=true) : -9223372036854775808≤x∧x≤9223372036854775807:=by
 have e1:IntKind.i64.min = -9223372036854775808:=by decide
 have e2:IntKind.i64.max=9223372036854775807:=by decide
 simp only [Lit.wf,e1,e2,Bool.and_eq_true,decide_eq_true_eq] at h
 exact h
theorem fit_str {s:ByteArray} (h:s.size≤maxLen):s.data.toList.length≤9223372036854775807:=by
 have e:s.data.toList.length=s.size:=Array.length_toList
 rw [e]
 unfold maxLen at h
 omega
set_option maxRecDepth 100000 in
theorem lifted (os:Os) (started:os.Started) (H:Type) (enc:TypeId × Value→H) :
  ReturnsInHanded {} Tryz.checked os 3 .any (Rows.topCompiledSpec.pre6 enc Tryz.prog Tryz.f3 Rows.topCompiledRow.domain false) (Rows.topCompiledSpec.post enc Tryz.prog Tryz.f3 false true false false):=by
 refine returnsInHanded_of_change (C:=Tryz.checked) own started (by kernel_rfl) Tryz.func3
  (ChangeSpec.witness6 (enc:=enc) (C:=Tryz.checked) false ⟨#[],#[.string ⟨#[]⟩,.agg #[.int .i64 0,.slice none 0 0,.slice none 0 0],.int .i64 0,.int .i64 0,.int .i64 0,.agg #[.int .i64 0,.int .i64 0,.int .i64 0,.int .i64 0]],[]⟩ 8 (by kernel_rfl) (by kernel_rfl) (by kernel_rfl) (by kernel_rfl)) ?_
 intro W base args ds gs before hval0 hW hcnd _
 have hval:∀ (j:Nat) t v,Tryz.f3.params[j]?=some t→args[j]?=some v→Value.okWide Tryz.prog W .any base t v:=hval0
 have hW':=hW
 obtain ⟨p,q,hA0,hV,rfl,hfz,hnd⟩:=hW
 have hA:DataW.TrodAll enc Tryz.prog W 0 (fun _=>true) true Tryz.f3.params.toList args.toList ds p:=hA0
 rw [Tryz.params3] at hA hval
 obtain ⟨v0,vs0,d0,ds0,p0,q0,hargs,rfl,rfl,h0,t0⟩:=trodAll_cons hA
 obtain ⟨v1,vs1,d1,ds1,p1,q1,rfl,rfl,rfl,h1,t1⟩:=trodAll_cons t0
 obtain ⟨v2,vs2,d2,ds2,p2,q2,rfl,rfl,rfl,h2,t2⟩:=trodAll_cons t1
 obtain ⟨v3,vs3,d3,ds3,p3,q3,rfl,rfl,rfl,h3,t3⟩:=trodAll_cons t2
 obtain ⟨v4,vs4,d4,ds4,p4,q4,rfl,rfl,rfl,h4,t4⟩:=trodAll_cons t3
 obtain ⟨v5,vs5,d5,ds5,p5,q5,rfl,rfl,rfl,h5,t5⟩:=trodAll_cons t4
 obtain ⟨rfl,rfl,rfl⟩:=trodAll_nil t5
 obtain rfl:args=#[v0,v1,v2,v3,v4,v5]:=by cases args;simp_all
 obtain ⟨rfl,rfl⟩:=trodVars_none hV
 have k0:=h0
 have lt0:∀ x∈p0,x.block<W.heap.size:=by obtain ⟨m,hm⟩:=k0;exact DataW.trod_lt m _ _ _ hm
 have k1:=h1
 have lt1:∀ x∈p1,x.block<W.heap.size:=by obtain ⟨m,hm⟩:=k1;exact DataW.trod_lt m _ _ _ hm
 have k2:=h2
 have lt2:∀ x∈p2,x.block<W.heap.size:=by obtain ⟨m,hm⟩:=k2;exact DataW.trod_lt m _ _ _ hm
 have k3:=h3
 have lt3:∀ x∈p3,x.block<W.heap.size:=by obtain ⟨m,hm⟩:=k3;exact DataW.trod_lt m _ _ _ hm
 have k4:=h4
 have lt4:∀ x∈p4,x.block<W.heap.size:=by obtain ⟨m,hm⟩:=k4;exact DataW.trod_lt m _ _ _ hm
 have k5:=h5
 have lt5:∀ x∈p5,x.block<W.heap.size:=by obtain ⟨m,hm⟩:=k5;exact DataW.trod_lt m _ _ _ hm
 obtain ⟨x0,rfl,rfl,rfl,w0⟩:=open_string Tryz.underlying9 (hval 0 9 v0 rfl rfl) h0
 have l0:=fit_str w0
 obtain ⟨fuel1,hf1⟩:=h1
 obtain ⟨cs1,hcs1,_⟩:∃ cs,v1 = .agg cs∧cs.size=Tryz.prog.cellsOf 25:=by
  have:=hval 1 25 v1 rfl rfl
  simp only [Value.okWide,Tryz.underlying25] at this
  obtain ⟨cs,h1,h2,_⟩:=this
  exact ⟨cs,h1,h2⟩
 subst hcs1
 obtain ⟨_,hs1⟩:=Sch.of_trod 9 _ (.pair (.int .i64) (.pair (.sl (.pair (.int .i64) (.pair (.int .i64) (.pair (.int .i64) (.pair (.int .i64) (.pair (.int .i64) (.pair (.int .i64) .unit))))))) (.pair (.sl (.pair (.int .i64) (.pair (.int .i64) .unit))) .unit))) _ _ _ (by kernel_rfl) hf1
 obtain ⟨cs1⟩:=cs1
 simp only [Value.cells] at hs1
 obtain ⟨_,_,rfl,_,⟨x1_0,rfl,w1_0⟩,_,_,rfl,_,⟨x1_1,n1_1,rfl,ok1_1,nle1_1,el1_1⟩,_,_,rfl,_,⟨x1_2,n1_2,rfl,ok1_2,nle1_2,el1_2⟩,rfl⟩:=hs1
 have r1_0:=fit_i64 w1_0
 obtain ⟨l1_1,hl1_1,row1_1,q1_1⟩:=mR (α:=Tp.Lk) (fun x vs=>vs=Tp.lkV x) Tp.lkI ok1_1 el1_1 (by
  rintro cs ⟨_,_,rfl,_,⟨x9_0,rfl,w9_0⟩,_,_,rfl,_,⟨x9_1,rfl,w9_1⟩,_,_,rfl,_,⟨x9_2,rfl,w9_2⟩,_,_,rfl,_,⟨x9_3,rfl,w9_3⟩,_,_,rfl,_,⟨x9_4,rfl,w9_4⟩,_,_,rfl,_,⟨x9_5,rfl,w9_5⟩,rfl⟩
  exact ⟨⟨x9_0,x9_1,x9_2,x9_3,x9_4,x9_5⟩,rfl,⟨fit_i64 w9_0,fit_i64 w9_1,fit_i64 w9_2,fit_i64 w9_3,fit_i64 w9_4,fit_i64 w9_5⟩⟩)
 subst hl1_1
 obtain ⟨A1_1,cap1_1,rfl,_,_⟩:=ok1_1
 obtain ⟨l1_2,hl1_2,row1_2,q1_2⟩:=mR (α:=Tp.Hs) (fun x vs=>vs=Tp.hsV x) Tp.hsI ok1_2 el1_2 (by
  rintro cs ⟨_,_,rfl,_,⟨x9_0,rfl,w9_0⟩,_,_,rfl,_,⟨x9_1,rfl,w9_1⟩,rfl⟩
  exact ⟨⟨x9_0,x9_1⟩,rfl,⟨fit_i64 w9_0,fit_i64 w9_1⟩⟩)
 subst hl1_2
 obtain ⟨A1_2,cap1_2,rfl,_,_⟩:=ok1_2
 obtain ⟨x2,rfl,rfl,rfl,w2⟩:=open_int Tryz.underlying3 (hval 2 3 v2 rfl rfl) h2
 have r2:=fit_i64 w2
 obtain ⟨x3,rfl,rfl,rfl,w3⟩:=open_int Tryz.underlying3 (hval 3 3 v3 rfl rfl) h3
 have r3:=fit_i64 w3
 obtain ⟨x4,rfl,rfl,rfl,w4⟩:=open_int Tryz.underlying3 (hval 4 3 v4 rfl rfl) h4
 have r4:=fit_i64 w4
 obtain ⟨fuel5,hf5⟩:=h5
 obtain ⟨cs5,hcs5,_⟩:∃ cs,v5 = .agg cs∧cs.size=Tryz.prog.cellsOf 27:=by
  have:=hval 5 27 v5 rfl rfl
  simp only [Value.okWide,Tryz.underlying27] at this
  obtain ⟨cs,h1,h2,_⟩:=this
  exact ⟨cs,h1,h2⟩
 subst hcs5
 obtain ⟨_,hs5⟩:=Sch.of_trod 9 _ (.pair (.int .i64) (.pair (.int .i64) (.pair (.int .i64) (.pair (.int .i64) .unit)))) _ _ _ (by kernel_rfl) hf5
 obtain ⟨cs5⟩:=cs5
 simp only [Value.cells] at hs5
 obtain ⟨_,_,rfl,_,⟨x5_0,rfl,w5_0⟩,_,_,rfl,_,⟨x5_1,rfl,w5_1⟩,_,_,rfl,_,⟨x5_2,rfl,w5_2⟩,_,_,rfl,_,⟨x5_3,rfl,w5_3⟩,rfl⟩:=hs5
 have r5_0:=fit_i64 w5_0
 have r5_1:=fit_i64 w5_1
 have r5_2:=fit_i64 w5_2
 have r5_3:=fit_i64 w5_3
 clear hA0 hval0
 have hc:NCall Tryz.prog 3 [.str x0.data.toList,.agg [.int .i64 x1_0,.hs (.slice A1_1 l1_1.length cap1_1) l1_1.length,.hs (.slice A1_2 l1_2.length cap1_2) l1_2.length],.int .i64 x2,.int .i64 x3,.int .i64 x4,.agg [.int .i64 x5_0,.int .i64 x5_1,.int .i64 x5_2,.int .i64 x5_3]] [hpB (fT W)] (fun r _=>r = .bool true):=ol _ _ l0 ⟨x1_0,l1_1,l1_2⟩ _ _ ⟨row1_1,row1_2⟩ x2 x3 ⟨x4,x5_0,x5_1,x5_2,x5_3⟩
 rw [aM] at hc
 have hc:Calls Tryz.prog 3 #[.string x0,.agg #[.int .i64 x1_0,.slice A1_1 l1_1.length cap1_1,.slice A1_2 l1_2.length cap1_2],.int .i64 x2,.int .i64 x3,.int .i64 x4,.agg #[.int .i64 x5_0,.int .i64 x5_1,.int .i64 x5_2,.int .i64 x5_3]] W _:=hc.2 W (lr W)
 refine hc.mono fun e W' ⟨r,m',h,he,_,hf,_⟩=>?_
 subst h
 subst he
 have bel:=mG hf
 exact ⟨_,rfl,_,_,_,[],_,[],hW',trodAll_mk1 (shut_bool Tryz.underlying4 _),(trodAll_cons_mk (Below.trod laidOut (by kernel_rfl) (of_decide_eq_true (by kernel_rfl)) k0 bel lt0) (trodAll_cons_mk (Below.trod laidOut (by kernel_rfl) (of_decide_eq_true (by kernel_rfl)) k1 bel lt1) (trodAll_cons_mk (Below.trod laidOut (by kernel_rfl) (of_decide_eq_true (by kernel_rfl)) k2 bel lt2) (trodAll_cons_mk (Below.trod laidOut (by kernel_rfl) (of_decide_eq_true (by kernel_rfl)) k3 bel lt3) (trodAll_cons_mk (Below.trod laidOut (by kernel_rfl) (of_decide_eq_true (by kernel_rfl)) k4 bel lt4) (trodAll_cons_mk (Below.trod laidOut (by kernel_rfl) (of_decide_eq_true (by kernel_rfl)) k5 bel lt5) trodAll_mk0)))))),rfl,bel.frame _,fun h=>by cases h⟩
theorem holds:Rows.TopCompiledSaid :=
 OpenClaim.holds_of_wide 3 Tryz.f3 rfl rfl rfl rfl rfl rfl rfl ⟨rfl,rfl,rfl,rfl,rfl⟩ rfl rfl rfl rfl rfl (by kernel_rfl) Tryz.func3 (by kernel_rfl)
  (of_decide_eq_true (by kernel_rfl)) (by unfold Func.isWrapper;first | (rw [if_pos (by decide +kernel)];kernel_rfl) | (rw [if_neg (by decide +kernel)];exact ⟨rfl,rfl⟩))
  (fun os started H enc _=>lifted os started H enc)
#print axioms holds
end Go.Proofs.YtmehinfgdcmmjaaGreat.topCompiledRow
