/-
  TreeTells, in its second form: Cases returns the cases or the error of the reference, and Find its index for every port and packet.
  Conditions: those of the given statement (invalid policies of Size at most 150, valid ones of at most 300 cells; what the arguments reach is of bulk at most 1048576).
-/
import Derived.Test.YtaolcaggdddkpaaGreatJ32
import Derived.Test.YtaolcaggdddkpaaGreatRows
import Derived.ProofKit
import Derived.OpenShut
import Derived.ChangeOld
import Derived.Carry
import Derived.LaidMore
import Derived.Stop.Joined
import Derived.Deep.DeepWitnessRowRef
namespace Go.Proofs.YtaolcaggdddkpaaGreat.treeTellsRow
open Go.ChangeShapes Go.WideShapes Go.ChangeAt Go.RowKit Go.Sx
open Go.ChangeMaps (open_string shut_string)
theorem own:ownKnob Tryz.prog.godebug=none:=by kernel_rfl
theorem laidOut:laidOutB Tryz.prog=true:=by kernel_rfl
theorem fit_i64 {x:Int} (h:(Lit.int .i64 x).wf=true) : -9223372036854775808≤x∧x≤9223372036854775807:=by
 have e1:IntKind.i64.min = -9223372036854775808:=by decide
 have e2:IntKind.i64.max=9223372036854775807:=by decide
 simp only [Lit.wf,e1,e2,Bool.and_eq_true,decide_eq_true_eq] at h
 exact h
theorem door_met (os:Os) (args:Array Value):laidMetH Tryz.prog Rows.treeTellsUptoRow.laid ((World.doorLaid Tryz.prog 400 os).forCall (fun _ _=>0) ⟨#[],args,[]⟩).memory :=
 laidMetH_of_parts3 (fuel:=8) (laidMet_of_run' 8 (by kernel_rfl) (by kernel_rfl)) (by kernel_rfl) (by kernel_rfl)
theorem reads (os:Os) {H:Type} (enc:TypeId × Value→H):DataW.whole enc Tryz.prog ((World.doorLaid Tryz.prog 400 os).forCall (fun _ _=>0) ⟨#[],#[.agg #[.int .i64 0,.int .i64 0,.int .i64 0,.int .i64 0,.slice none 0 0,.int .i64 0,.int .i64 0,.slice none 0 0],.int .i64 0,.int .i64 0,.agg #[.int .i64 0,.int .i64 0,.int .i64 0,.int .i64 0]],[]⟩).memory Tryz.f3.params.toList Rows.treeTellsSpec.vars false (#[.agg #[.int .i64 0,.int .i64 0,.int .i64 0,.int .i64 0,.slice none 0 0,.int .i64 0,.int .i64 0,.slice none 0 0],.int .i64 0,.int .i64 0,.agg #[.int .i64 0,.int .i64 0,.int .i64 0,.int .i64 0]]:Array Value).toList 8=some ([.agg [.lit (.int .i64 0),.agg [.lit (.int .i64 0),.lit (.int .i64 0),.lit (.int .i64 0),.nil],.lit (.int .i64 0),.lit (.int .i64 0),.nil],.lit (.int .i64 0),.lit (.int .i64 0),.agg [.lit (.int .i64 0),.lit (.int .i64 0),.lit (.int .i64 0),.lit (.int .i64 0)]],[],[]):=by kernel_rfl
set_option maxRecDepth 100000 in
theorem lifted (os:Os) (started:os.Started) (H:Type) (enc:TypeId × Value→H) (F:Stop.Interp) :
  ReturnsInHanded {} Tryz.checked os 3 .any ((Rows.OpenSpec.upto Rows.treeTellsSpec).preRow enc Tryz.prog Tryz.f3 Rows.treeTellsUptoRow.domain false Rows.treeTellsUptoRow.laid) (((Rows.OpenSpec.upto Rows.treeTellsSpec).at F).post enc Tryz.prog Tryz.f3 false true false false):=by
 refine returnsInHanded_of_row (C:=Tryz.checked) (s:=Rows.OpenSpec.upto Rows.treeTellsSpec) own started (by kernel_rfl) Tryz.func3
  (witness_row_atRef (enc:=enc) (C:=Tryz.checked) false (World.doorLaid Tryz.prog 400 os) #[.agg #[.int .i64 0,.int .i64 0,.int .i64 0,.int .i64 0,.slice none 0 0,.int .i64 0,.int .i64 0,.slice none 0 0],.int .i64 0,.int .i64 0,.agg #[.int .i64 0,.int .i64 0,.int .i64 0,.int .i64 0]] rfl (by kernel_rfl) (by kernel_rfl) (by kernel_rfl)
   (OpenSpec.preRow_of_cond 8 (reads os enc) (by kernel_rfl) (fun k hk=>by cases hk;kernel_rfl) (by kernel_rfl) (door_met os _))) ?_
 intro W base args ds gs before hval0 hW _ hcond hZ hL _ _
 show Calls Tryz.prog 3 args W fun e W'=>∃ v,e = .returned v∧Rows.treeTellsSpec.post enc Tryz.prog Tryz.f3 false true false false W args v W'
 have hk:=hcond _ rfl
 have hb:Rows.uptoBulkAll (ds++gs)≤1048576:=of_decide_eq_true hk
 have hval:∀ (j:Nat) t v,Tryz.f3.params[j]?=some t→args[j]?=some v→Value.okWide Tryz.prog W .any base t v:=hval0
 have hW':=hW
 obtain ⟨p,q,hA0,hV,rfl,hfz,hnd⟩:=hW
 have hA:DataW.TrodAll enc Tryz.prog W 0 (fun _=>true) true Tryz.f3.params.toList args.toList ds p:=hA0
 rw [Tryz.params3] at hA hval
 obtain ⟨v0,vs0,d0,ds0,p0,q0,hargs,rfl,rfl,h0,t0⟩:=trodAll_cons hA
 obtain ⟨v1,vs1,d1,ds1,p1,q1,rfl,rfl,rfl,h1,t1⟩:=trodAll_cons t0
 obtain ⟨v2,vs2,d2,ds2,p2,q2,rfl,rfl,rfl,h2,t2⟩:=trodAll_cons t1
 obtain ⟨v3,vs3,d3,ds3,p3,q3,rfl,rfl,rfl,h3,t3⟩:=trodAll_cons t2
 obtain ⟨rfl,rfl,rfl⟩:=trodAll_nil t3
 obtain rfl:args=#[v0,v1,v2,v3]:=by cases args;simp_all
 obtain ⟨rfl,rfl⟩:=trodVars_none hV
 simp only [List.append_nil,Rows.uptoBulkAll] at hb
 have k0:=h0
 have lt0:∀ x∈p0,x.block<W.heap.size:=by obtain ⟨m,hm⟩:=k0;exact DataW.trod_lt m _ _ _ hm
 have k1:=h1
 have lt1:∀ x∈p1,x.block<W.heap.size:=by obtain ⟨m,hm⟩:=k1;exact DataW.trod_lt m _ _ _ hm
 have k2:=h2
 have lt2:∀ x∈p2,x.block<W.heap.size:=by obtain ⟨m,hm⟩:=k2;exact DataW.trod_lt m _ _ _ hm
 have k3:=h3
 have lt3:∀ x∈p3,x.block<W.heap.size:=by obtain ⟨m,hm⟩:=k3;exact DataW.trod_lt m _ _ _ hm
 obtain ⟨fuel0,hf0⟩:=h0
 obtain ⟨cs0,hcs0,_⟩:∃ cs,v0 = .agg cs∧cs.size=Tryz.prog.cellsOf 27:=by
  have:=hval 0 27 v0 rfl rfl
  simp only [Value.okWide,Tryz.underlying27] at this
  obtain ⟨cs,h1,h2,_⟩:=this
  exact ⟨cs,h1,h2⟩
 subst hcs0
 obtain ⟨P0,hR0,hI0,hB0⟩:=open27 27 25 _ Tryz.underlying27 Tryz.underlying25 3 Tryz.underlying3 24 (fun fuel cs x hx=>open26 24 22 _ Tryz.underlying24 Tryz.underlying22 3 Tryz.underlying3 (by kernel_rfl) (by kernel_rfl) (by kernel_rfl) (by kernel_rfl) fuel fuel cs x (Nat.le_refl _) hx) (by kernel_rfl) (by kernel_rfl) (by kernel_rfl) (by kernel_rfl) (by kernel_rfl) fuel0 fuel0 _ _ (Nat.le_refl _) hf0
 obtain ⟨pA0,pcap0,A0,cap0,row0,hcs0⟩:=hR0.inv
 obtain ⟨cs0⟩:=cs0
 simp only [Value.cells] at hcs0
 subst hcs0
 dsimp only at hB0
 obtain ⟨x1,rfl,rfl,rfl,w1⟩:=open_int Tryz.underlying3 (hval 1 3 v1 rfl rfl) h1
 have r1:=fit_i64 w1
 obtain ⟨x2,rfl,rfl,rfl,w2⟩:=open_int Tryz.underlying3 (hval 2 3 v2 rfl rfl) h2
 have r2:=fit_i64 w2
 obtain ⟨fuel3,hf3⟩:=h3
 obtain ⟨cs3,hcs3,_⟩:∃ cs,v3 = .agg cs∧cs.size=Tryz.prog.cellsOf 29:=by
  have:=hval 3 29 v3 rfl rfl
  simp only [Value.okWide,Tryz.underlying29] at this
  obtain ⟨cs,h1,h2,_⟩:=this
  exact ⟨cs,h1,h2⟩
 subst hcs3
 obtain ⟨_,hs3⟩:=Sch.of_trod 9 _ (.pair (.int .i64) (.pair (.int .i64) (.pair (.int .i64) (.pair (.int .i64) .unit)))) _ _ _ (by kernel_rfl) hf3
 obtain ⟨cs3⟩:=cs3
 simp only [Value.cells] at hs3
 obtain ⟨_,_,rfl,_,⟨x3_0,rfl,w3_0⟩,_,_,rfl,_,⟨x3_1,rfl,w3_1⟩,_,_,rfl,_,⟨x3_2,rfl,w3_2⟩,_,_,rfl,_,⟨x3_3,rfl,w3_3⟩,rfl⟩:=hs3
 have r3_0:=fit_i64 w3_0
 have r3_1:=fit_i64 w3_1
 have r3_2:=fit_i64 w3_2
 have r3_3:=fit_i64 w3_3
 clear hA0 hval0
 have hc:NCall Tryz.prog 3 [.agg (Po.cs P0 (.slice pA0 P0.p.l.length pcap0) (.slice A0 P0.l.length cap0)),.int .i64 x1,.int .i64 x2,.agg [.int .i64 x3_0,.int .i64 x3_1,.int .i64 x3_2,.int .i64 x3_3]] [hpB (cellsW W)] (fun r _=>r = .bool true):=ptells31_c _ P0 _ _ x1 ⟨x2,x3_0,x3_1,x3_2,x3_3⟩ (by omega) row0
 rw [NCall_iff] at hc
 have hc:Calls Tryz.prog 3 #[.agg #[.int .i64 P0.k,.int .i64 P0.p.k,.int .i64 P0.p.f,.int .i64 P0.p.v,.slice pA0 P0.p.l.length pcap0,.int .i64 P0.f,.int .i64 P0.v,.slice A0 P0.l.length cap0],.int .i64 x1,.int .i64 x2,.agg #[.int .i64 x3_0,.int .i64 x3_1,.int .i64 x3_2,.int .i64 x3_3]] W _:=hc.2 W (memOk_heap W)
 refine hc.mono fun e W' ⟨r,m',h,he,_,hf,_⟩=>?_
 subst h
 subst he
 have bel:=below_heap hf
 exact ⟨_,rfl,_,_,_,[],_,[],hW',trodAll_mk1 (shut_bool Tryz.underlying4 _),(trodAll_cons_mk (Below.trod laidOut (by kernel_rfl) (of_decide_eq_true (by kernel_rfl)) k0 bel lt0) (trodAll_cons_mk (Below.trod laidOut (by kernel_rfl) (of_decide_eq_true (by kernel_rfl)) k1 bel lt1) (trodAll_cons_mk (Below.trod laidOut (by kernel_rfl) (of_decide_eq_true (by kernel_rfl)) k2 bel lt2) (trodAll_cons_mk (Below.trod laidOut (by kernel_rfl) (of_decide_eq_true (by kernel_rfl)) k3 bel lt3) trodAll_mk0)))),rfl,bel.frame _,fun h=>by cases h⟩
theorem holds:Rows.TreeTellsUptoSaid :=
 OpenClaim.holds_of_cond 3 Tryz.f3 rfl rfl rfl rfl rfl rfl rfl ⟨rfl,rfl,rfl,rfl,rfl⟩ rfl rfl rfl rfl rfl (by kernel_rfl) Tryz.func3 (by kernel_rfl)
  (of_decide_eq_true (by kernel_rfl)) (by unfold Func.isWrapper;first | (rw [if_pos (by decide +kernel)];kernel_rfl) | (rw [if_neg (by decide +kernel)];exact ⟨rfl,rfl⟩))
  (fun os started H enc _ F=>by rw [OpenClaim.pre_eq_preRow];exact lifted os started H enc F)
#print axioms holds
end Go.Proofs.YtaolcaggdddkpaaGreat.treeTellsRow
