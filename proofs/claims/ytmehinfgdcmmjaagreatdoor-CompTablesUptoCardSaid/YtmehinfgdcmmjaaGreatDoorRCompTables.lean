/- CompTables, the tied card in its second form: Table returns the table or the error of the reference, and the table is valid. Conditions: those of the given statement (invalid policies of Size at most 150, valid ones of at most 300 cells; what the arguments reach is of bulk at most 1048576). -/
import Derived.Test.YtmehinfgdcmmjaaGreatDoorTCm10
import Derived.Test.YtmehinfgdcmmjaaGreatDoorTJ4
import Derived.Test.YtmehinfgdcmmjaaGreatDoorTJ22
import Derived.Test.YtmehinfgdcmmjaaGreatDoorRows
import Derived.ProofKit
import Derived.OpenShut
import Derived.ChangeOld
import Derived.Carry
import Derived.Test.YtmehinfgdcmmjaaGreatDoorTie
import Derived.Test.YtmehinfgdcmmjaaGreatDoorCards
import Derived.SevenTiedAt
import Derived.LaidMore
import Derived.Stop.Joined
import Derived.Deep.DeepWitnessRowRef
namespace Go.Proofs.YtmehinfgdcmmjaaGreatDoor.compTablesRow
open Go.ChangeShapes Go.WideShapes Go.ChangeAt Go.RowKit Go.Sx
open Go.ChangeMaps (open_string shut_string)
theorem own:ownKnob Tryz.prog.godebug=none:=by kernel_rfl
theorem laidOut:laidOutB Tryz.prog=true:=by kernel_rfl
theorem fit_i64 {x:Int} (h:(Lit.int .i64 x).wf=true) : -9223372036854775808≤x∧x≤9223372036854775807:=by
 have e1:IntKind.i64.min = -9223372036854775808:=by decide
 have e2:IntKind.i64.max=9223372036854775807:=by decide
 simp only [Lit.wf,e1,e2,Bool.and_eq_true,decide_eq_true_eq] at h
 exact h
theorem door_met (os:Os) (args:Array Value):laidMetH Tryz.prog Rows.compTablesUptoRow.laid ((World.doorLaid Tryz.prog 400 os).forCall (fun _ _=>0) ⟨#[],args,[]⟩).memory :=
 laidMetH_of_parts3 (fuel:=8) (laidMet_of_run' 8 (by kernel_rfl) (by kernel_rfl)) (by kernel_rfl) (by kernel_rfl)
theorem reads (os:Os) {H:Type} (enc:TypeId × Value→H):DataW.whole enc Tryz.prog ((World.doorLaid Tryz.prog 400 os).forCall (fun _ _=>0) ⟨#[],#[.agg #[.int .i64 0,.int .i64 0,.int .i64 0,.int .i64 0,.slice none 0 0,.int .i64 0,.int .i64 0,.slice none 0 0],.int .i64 0,.int .i64 0],[]⟩).memory Tryz.f4.params.toList Rows.compTablesSpec.vars false (#[.agg #[.int .i64 0,.int .i64 0,.int .i64 0,.int .i64 0,.slice none 0 0,.int .i64 0,.int .i64 0,.slice none 0 0],.int .i64 0,.int .i64 0]:Array Value).toList 8=some ([.agg [.lit (.int .i64 0),.agg [.lit (.int .i64 0),.lit (.int .i64 0),.lit (.int .i64 0),.nil],.lit (.int .i64 0),.lit (.int .i64 0),.nil],.lit (.int .i64 0),.lit (.int .i64 0)],[],[]):=by kernel_rfl
set_option maxRecDepth 100000 in
theorem lifted (os:Os) (started:os.Started) (H:Type) (enc:TypeId × Value→H) (F:Stop.Interp) :
  ReturnsInHanded {} Tryz.checked os 4 .any ((Rows.OpenSpec.upto Rows.compTablesSpec).preRow enc Tryz.prog Tryz.f4 Rows.compTablesUptoRow.domain false Rows.compTablesUptoRow.laid) (((Rows.OpenSpec.upto Rows.compTablesSpec).at F).post enc Tryz.prog Tryz.f4 false true false false):=by
 refine returnsInHanded_of_row (C:=Tryz.checked) (s:=Rows.OpenSpec.upto Rows.compTablesSpec) own started (by kernel_rfl) Tryz.func4
  (witness_row_atRef (enc:=enc) (C:=Tryz.checked) false (World.doorLaid Tryz.prog 400 os) #[.agg #[.int .i64 0,.int .i64 0,.int .i64 0,.int .i64 0,.slice none 0 0,.int .i64 0,.int .i64 0,.slice none 0 0],.int .i64 0,.int .i64 0] rfl (by kernel_rfl) (by kernel_rfl) (by kernel_rfl)
   (OpenSpec.preRow_of_cond 8 (reads os enc) (by kernel_rfl) (fun k hk=>by cases hk;kernel_rfl) (by kernel_rfl) (door_met os _))) ?_
 intro W base args ds gs before hval0 hW _ hcond hZ hL _ _
 show Calls Tryz.prog 4 args W fun e W'=>∃ v,e = .returned v∧Rows.compTablesSpec.post enc Tryz.prog Tryz.f4 false true false false W args v W'
 have hk:=hcond _ rfl
 have hb:Rows.uptoBulkAll (ds++gs)≤1048576:=of_decide_eq_true hk
 have hT:TabF (bZ W):=tabF_of (by kernel_rfl) hL (by first | exact .head _ | exact .tail _ (.head _) | exact .tail _ (.tail _ (.head _)) | exact .tail _ (.tail _ (.tail _ (.head _))))
 have hval:∀ (j:Nat) t v,Tryz.f4.params[j]?=some t→args[j]?=some v→Value.okWide Tryz.prog W .any base t v:=hval0
 have hW':=hW
 obtain ⟨p,q,hA0,hV,rfl,hfz,hnd⟩:=hW
 have hA:DataW.TrodAll enc Tryz.prog W 0 (fun _=>true) true Tryz.f4.params.toList args.toList ds p:=hA0
 rw [Tryz.params4] at hA hval
 obtain ⟨v0,vs0,d0,ds0,p0,q0,hargs,rfl,rfl,h0,t0⟩:=trodAll_cons hA
 obtain ⟨v1,vs1,d1,ds1,p1,q1,rfl,rfl,rfl,h1,t1⟩:=trodAll_cons t0
 obtain ⟨v2,vs2,d2,ds2,p2,q2,rfl,rfl,rfl,h2,t2⟩:=trodAll_cons t1
 obtain ⟨rfl,rfl,rfl⟩:=trodAll_nil t2
 obtain rfl:args=#[v0,v1,v2]:=by cases args;simp_all
 obtain ⟨rfl,rfl⟩:=trodVars_none hV
 simp only [List.append_nil,Rows.uptoBulkAll] at hb
 have k0:=h0
 have lt0:∀ x∈p0,x.block<W.heap.size:=by obtain ⟨m,hm⟩:=k0;exact DataW.trod_lt m _ _ _ hm
 have k1:=h1
 have lt1:∀ x∈p1,x.block<W.heap.size:=by obtain ⟨m,hm⟩:=k1;exact DataW.trod_lt m _ _ _ hm
 have k2:=h2
 have lt2:∀ x∈p2,x.block<W.heap.size:=by obtain ⟨m,hm⟩:=k2;exact DataW.trod_lt m _ _ _ hm
 obtain ⟨fuel0,hf0⟩:=h0
 obtain ⟨cs0,hcs0,_⟩:∃ cs,v0 = .agg cs∧cs.size=Tryz.prog.cellsOf 27:=by
  have:=hval 0 27 v0 rfl rfl
  simp only [Value.okWide,Tryz.underlying27] at this
  obtain ⟨cs,h1,h2,_⟩:=this
  exact ⟨cs,h1,h2⟩
 subst hcs0
 obtain ⟨P0,hR0,hI0,hB0⟩:=open27 27 25 _ Tryz.underlying27 Tryz.underlying25 3 Tryz.underlying3 24 (fun fuel cs x hx=>oV 24 22 _ Tryz.underlying24 Tryz.underlying22 3 Tryz.underlying3 (by kernel_rfl) (by kernel_rfl) (by kernel_rfl) (by kernel_rfl) fuel fuel cs x (Nat.le_refl _) hx) (by kernel_rfl) (by kernel_rfl) (by kernel_rfl) (by kernel_rfl) (by kernel_rfl) fuel0 fuel0 _ _ (Nat.le_refl _) hf0
 obtain ⟨pA0,pcap0,A0,cap0,row0,hcs0⟩:=hR0.inv
 obtain ⟨cs0⟩:=cs0
 simp only [Value.cells] at hcs0
 subst hcs0
 dsimp only at hB0
 obtain ⟨x1,rfl,rfl,rfl,w1⟩:=open_int Tryz.underlying3 (hval 1 3 v1 rfl rfl) h1
 have r1:=fit_i64 w1
 obtain ⟨x2,rfl,rfl,rfl,w2⟩:=open_int Tryz.underlying3 (hval 2 3 v2 rfl rfl) h2
 have r2:=fit_i64 w2
 clear hA0 hval0
 have hc:Qz Tryz.prog 4 [.agg (Po.cs P0 (.slice pA0 P0.p.l.length pcap0) (.slice A0 P0.l.length cap0)),.int .i64 x1,.int .i64 x2] [hpB (bZ W)] (fun r _=>r = .bool true):=jo _ hT P0 _ _ x1 x2 (by omega) row0
 rw [aN] at hc
 have hc:Calls Tryz.prog 4 #[.agg #[.int .i64 P0.k,.int .i64 P0.p.k,.int .i64 P0.p.f,.int .i64 P0.p.v,.slice pA0 P0.p.l.length pcap0,.int .i64 P0.f,.int .i64 P0.v,.slice A0 P0.l.length cap0],.int .i64 x1,.int .i64 x2] W _:=hc.2 W (lZ W)
 refine hc.mono fun e W' ⟨r,m',h,he,_,hf,_⟩=>?_
 subst h
 subst he
 have bel:=lr hf
 exact ⟨_,rfl,_,_,_,[],_,[],hW',trodAll_mk1 (shut_bool Tryz.underlying4 _),(trodAll_cons_mk (Below.trod laidOut (by kernel_rfl) (of_decide_eq_true (by kernel_rfl)) k0 bel lt0) (trodAll_cons_mk (Below.trod laidOut (by kernel_rfl) (of_decide_eq_true (by kernel_rfl)) k1 bel lt1) (trodAll_cons_mk (Below.trod laidOut (by kernel_rfl) (of_decide_eq_true (by kernel_rfl)) k2 bel lt2) trodAll_mk0))),rfl,bel.frame _,fun h=>by cases h⟩
theorem holds:Rows.CompTablesUptoSaid :=
 OpenClaim.holds_of_cond 4 Tryz.f4 rfl rfl rfl rfl rfl rfl rfl ⟨rfl,rfl,rfl,rfl,rfl⟩ rfl rfl rfl rfl rfl (by kernel_rfl) Tryz.func4 (by kernel_rfl)
  (of_decide_eq_true (by kernel_rfl)) (by unfold Func.isWrapper;first | (rw [if_pos (by decide +kernel)];kernel_rfl) | (rw [if_neg (by decide +kernel)];exact ⟨rfl,rfl⟩))
  (fun os started H enc _ F=>by rw [OpenClaim.pre_eq_preRow];exact lifted os started H enc F)
theorem card_holds:Rows.CompTablesUptoCardSaid :=
 Claim7.holds_tied_plain_at .later [] _ _ _ _
  holds (fun _ h=>by cases h) (by kernel_rfl) (fun _ h=>by cases h) compTablesUpto_row_tie rfl ⟨rfl,rfl⟩ (by kernel_rfl) rfl
  (fun f fn hf hfn=>by
   obtain rfl : f = 4 := Option.some.inj ((show Tryz.prog.funcNamed "turnout/turnoutlaw32.CompTables" = some 4 by kernel_rfl).symm.trans hf) |>.symm
   obtain rfl:fn=Tryz.f4:=(Option.some.inj (Tryz.func4.symm.trans hfn)).symm
   exact ⟨by kernel_rfl,fun j t ht=>by
    rw [Tryz.params4] at ht
    have hm:t∈[27,3,3]:=by simpa [or_assoc] using Array.mem_of_getElem? ht
    have hall:([27,3,3].all fun u=>!Tryz.prog.wantsStandIn u)=true:=by kernel_rfl
    exact (show Tryz.prog.wantsStandIn t=false by simpa using List.all_eq_true.1 hall t hm)⟩)
  (by kernel_rfl)
#print axioms card_holds
end Go.Proofs.YtmehinfgdcmmjaaGreatDoor.compTablesRow
