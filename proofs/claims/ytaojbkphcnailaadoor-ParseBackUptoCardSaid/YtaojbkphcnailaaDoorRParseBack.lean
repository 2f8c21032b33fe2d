/-
  ParseBack, the tied card in its second form: valid policies and conditions are parsed as they were formatted.
  Conditions: those of the given statement (the text is not too long; what the arguments reach is of bulk at most 1048576).
-/
import Derived.Test.YtaojbkphcnailaaDoorJ33
import Derived.Test.YtaojbkphcnailaaDoorJ34
import Derived.Test.YtaojbkphcnailaaDoorRows
import Derived.ProofKit
import Derived.OpenShut
import Derived.ChangeOld
import Derived.Carry
import Derived.Test.YtaojbkphcnailaaDoorCard
import Derived.Test.YtaojbkphcnailaaDoorTie
import Derived.Test.YtaojbkphcnailaaDoorCards
import Derived.SevenTiedAt
import Derived.LaidMore
import Derived.Stop.Joined
import Derived.Deep.DeepWitnessRowRef
namespace Go.Proofs.YtaojbkphcnailaaDoor.parseBackRow
open Go.ChangeShapes Go.WideShapes Go.ChangeAt Go.RowKit Go.Sx
open Go.ChangeMaps (open_string shut_string)
theorem own:ownKnob Tryd.prog.godebug=none:=by kernel_rfl
theorem laidOut:laidOutB Tryd.prog=true:=by kernel_rfl
theorem fit_i64 {x:Int} (h:(Lit.int .i64 x).wf=true) : -9223372036854775808≤x∧x≤9223372036854775807:=by
  have e1:IntKind.i64.min = -9223372036854775808:=by decide
  have e2:IntKind.i64.max=9223372036854775807:=by decide
  simp only [Lit.wf,e1,e2,Bool.and_eq_true,decide_eq_true_eq] at h
  exact h
theorem door_met (os:Os) (args:Array Value):laidMetH Tryd.prog Rows.parseBackUptoRow.laid ((World.doorLaid Tryd.prog 400 os).forCall (fun _ _=>0) ⟨#[],args,[]⟩).memory :=
  laidMetH_of_parts3 (fuel:=8) (laidMet_of_run' 8 (by kernel_rfl) (by kernel_rfl)) (by kernel_rfl) (by kernel_rfl)
theorem reads (os:Os) {H:Type} (enc:TypeId × Value→H):DataW.whole enc Tryd.prog ((World.doorLaid Tryd.prog 400 os).forCall (fun _ _=>0) ⟨#[],#[.agg #[.int .i64 0,.int .i64 0,.int .i64 0,.int .i64 0,.slice none 0 0,.int .i64 0,.int .i64 0,.slice none 0 0],.agg #[.int .i64 0,.int .i64 0,.int .i64 0,.slice none 0 0]],[]⟩).memory Tryd.f4.params.toList Rows.parseBackSpec.vars false (#[.agg #[.int .i64 0,.int .i64 0,.int .i64 0,.int .i64 0,.slice none 0 0,.int .i64 0,.int .i64 0,.slice none 0 0],.agg #[.int .i64 0,.int .i64 0,.int .i64 0,.slice none 0 0]]:Array Value).toList 8=some ([.agg [.lit (.int .i64 0),.agg [.lit (.int .i64 0),.lit (.int .i64 0),.lit (.int .i64 0),.nil],.lit (.int .i64 0),.lit (.int .i64 0),.nil],.agg [.lit (.int .i64 0),.lit (.int .i64 0),.lit (.int .i64 0),.nil]],[],[]):=by kernel_rfl
set_option maxRecDepth 100000 in
theorem lifted (os:Os) (started:os.Started) (H:Type) (enc:TypeId × Value→H) (F:Stop.Interp) :
    ReturnsInHanded {} Tryd.checked os 4 .any ((Rows.OpenSpec.upto Rows.parseBackSpec).preRow enc Tryd.prog Tryd.f4 Rows.parseBackUptoRow.domain false Rows.parseBackUptoRow.laid) (((Rows.OpenSpec.upto Rows.parseBackSpec).at F).post enc Tryd.prog Tryd.f4 false true false false):=by
  refine returnsInHanded_of_row (C:=Tryd.checked) (s:=Rows.OpenSpec.upto Rows.parseBackSpec) own started (by kernel_rfl) Tryd.func4
    (witness_row_atRef (enc:=enc) (C:=Tryd.checked) false (World.doorLaid Tryd.prog 400 os) #[.agg #[.int .i64 0,.int .i64 0,.int .i64 0,.int .i64 0,.slice none 0 0,.int .i64 0,.int .i64 0,.slice none 0 0],.agg #[.int .i64 0,.int .i64 0,.int .i64 0,.slice none 0 0]] rfl (by kernel_rfl) (by kernel_rfl) (by kernel_rfl)
      (OpenSpec.preRow_of_cond 8 (reads os enc) (by kernel_rfl) (fun k hk=>by cases hk;kernel_rfl) (by kernel_rfl) (door_met os _))) ?_
  intro W base args ds gs before hval0 hW _ hcond hZ hL _ _
  show Calls Tryd.prog 4 args W fun e W'=>∃ v,e = .returned v∧Rows.parseBackSpec.post enc Tryd.prog Tryd.f4 false true false false W args v W'
  have hk:=hcond _ rfl
  have hb:Rows.uptoBulkAll (ds++gs)≤1048576:=of_decide_eq_true hk
  have hT:TabF (cellsW W):=tabF_of (by kernel_rfl) hL (by first | exact .head _ | exact .tail _ (.head _) | exact .tail _ (.tail _ (.head _)) | exact .tail _ (.tail _ (.tail _ (.head _))))
  have hval:∀ (j:Nat) t v,Tryd.f4.params[j]?=some t→args[j]?=some v→Value.okWide Tryd.prog W .any base t v:=hval0
  have hW':=hW
  obtain ⟨p,q,hA0,hV,rfl,hfz,hnd⟩:=hW
  have hA:DataW.TrodAll enc Tryd.prog W 0 (fun _=>true) true Tryd.f4.params.toList args.toList ds p:=hA0
  rw [Tryd.params4] at hA hval
  obtain ⟨v0,vs0,d0,ds0,p0,q0,hargs,rfl,rfl,h0,t0⟩:=trodAll_cons hA
  obtain ⟨v1,vs1,d1,ds1,p1,q1,rfl,rfl,rfl,h1,t1⟩:=trodAll_cons t0
  obtain ⟨rfl,rfl,rfl⟩:=trodAll_nil t1
  obtain rfl:args=#[v0,v1]:=by cases args;simp_all
  obtain ⟨rfl,rfl⟩:=trodVars_none hV
  simp only [List.append_nil,Rows.uptoBulkAll] at hb
  have k0:=h0
  have lt0:∀ x∈p0,x.block<W.heap.size:=by obtain ⟨m,hm⟩:=k0;exact DataW.trod_lt m _ _ _ hm
  have k1:=h1
  have lt1:∀ x∈p1,x.block<W.heap.size:=by obtain ⟨m,hm⟩:=k1;exact DataW.trod_lt m _ _ _ hm
  obtain ⟨fuel0,hf0⟩:=h0
  obtain ⟨cs0,hcs0,_⟩:∃ cs,v0 = .agg cs∧cs.size=Tryd.prog.cellsOf 37:=by
    have:=hval 0 37 v0 rfl rfl
    simp only [Value.okWide,Tryd.underlying37] at this
    obtain ⟨cs,h1,h2,_⟩:=this
    exact ⟨cs,h1,h2⟩
  subst hcs0
  obtain ⟨P0,hR0,hI0,hB0⟩:=open27 37 35 _ Tryd.underlying37 Tryd.underlying35 3 Tryd.underlying3 34 (fun fuel cs x hx=>open26 34 32 _ Tryd.underlying34 Tryd.underlying32 3 Tryd.underlying3 (by kernel_rfl) (by kernel_rfl) (by kernel_rfl) (by kernel_rfl) fuel fuel cs x (Nat.le_refl _) hx) (by kernel_rfl) (by kernel_rfl) (by kernel_rfl) (by kernel_rfl) (by kernel_rfl) fuel0 fuel0 _ _ (Nat.le_refl _) hf0
  obtain ⟨pA0,pcap0,A0,cap0,row0,hcs0⟩:=hR0.inv
  obtain ⟨cs0⟩:=cs0
  simp only [Value.cells] at hcs0
  subst hcs0
  dsimp only at hB0
  obtain ⟨fuel1,hf1⟩:=h1
  obtain ⟨cs1,hcs1,_⟩:∃ cs,v1 = .agg cs∧cs.size=Tryd.prog.cellsOf 34:=by
    have:=hval 1 34 v1 rfl rfl
    simp only [Value.okWide,Tryd.underlying34] at this
    obtain ⟨cs,h1,h2,_⟩:=this
    exact ⟨cs,h1,h2⟩
  subst hcs1
  obtain ⟨P1,hR1,_,hB1⟩:=open26 34 32 _ Tryd.underlying34 Tryd.underlying32 3 Tryd.underlying3 (by kernel_rfl) (by kernel_rfl) (by kernel_rfl) (by kernel_rfl) fuel1 fuel1 _ _ (Nat.le_refl _) hf1
  obtain ⟨A1,cap1,row1,hcs1⟩:=hR1.inv
  obtain ⟨cs1⟩:=cs1
  simp only [Value.cells] at hcs1
  subst hcs1
  dsimp only at hB1
  clear hA0 hval0
  have hc:NCall Tryd.prog 4 [.agg (Po.cs P0 (.slice pA0 P0.p.l.length pcap0) (.slice A0 P0.l.length cap0)),.agg (Pd.cs P1 (.slice A1 P1.l.length cap1))] [hpB (cellsW W)] (fun r _=>r = .bool true):=pback29_c _ hT P0 P1 _ _ _ (by omega) (by omega) row0 row1
  rw [NCall_iff] at hc
  have hc:Calls Tryd.prog 4 #[.agg #[.int .i64 P0.k,.int .i64 P0.p.k,.int .i64 P0.p.f,.int .i64 P0.p.v,.slice pA0 P0.p.l.length pcap0,.int .i64 P0.f,.int .i64 P0.v,.slice A0 P0.l.length cap0],.agg #[.int .i64 P1.k,.int .i64 P1.f,.int .i64 P1.v,.slice A1 P1.l.length cap1]] W _:=hc.2 W (memOk_heap W)
  refine hc.mono fun e W' ⟨r,m',h,he,_,hf,_⟩=>?_
  subst h
  subst he
  have bel:=below_heap hf
  exact ⟨_,rfl,_,_,_,[],_,[],hW',trodAll_mk1 (shut_bool Tryd.underlying4 _),(trodAll_cons_mk (Below.trod laidOut (by kernel_rfl) (of_decide_eq_true (by kernel_rfl)) k0 bel lt0) (trodAll_cons_mk (Below.trod laidOut (by kernel_rfl) (of_decide_eq_true (by kernel_rfl)) k1 bel lt1) trodAll_mk0)),rfl,bel.frame _,fun h=>by cases h⟩
theorem holds:Rows.ParseBackUptoSaid :=
  OpenClaim.holds_of_cond 4 Tryd.f4 rfl rfl rfl rfl rfl rfl rfl ⟨rfl,rfl,rfl,rfl,rfl⟩ rfl rfl rfl rfl rfl (by kernel_rfl) Tryd.func4 (by kernel_rfl)
    (of_decide_eq_true (by kernel_rfl)) (by unfold Func.isWrapper;first | (rw [if_pos (by decide +kernel)];kernel_rfl) | (rw [if_neg (by decide +kernel)];exact ⟨rfl,rfl⟩))
    (fun os started H enc _ F=>by rw [OpenClaim.pre_eq_preRow];exact lifted os started H enc F)
theorem card_holds:Rows.ParseBackUptoCardSaid :=
  Claim7.holds_tied_plain_at .later [] _ _ _ _
    holds (fun _ h=>by cases h) (by kernel_rfl) (fun _ h=>by cases h) parseBackUpto_row_tie rfl ⟨rfl,rfl⟩ (by kernel_rfl) rfl
    (fun f fn hf hfn=>by
      obtain rfl : f = 4 := Option.some.inj ((show Tryd.prog.funcNamed "turnout/turnoutlaw29.ParseBack" = some 4 by kernel_rfl).symm.trans hf) |>.symm
      obtain rfl:fn=Tryd.f4:=(Option.some.inj (Tryd.func4.symm.trans hfn)).symm
      exact ⟨by kernel_rfl,fun j t ht=>by
        rw [Tryd.params4] at ht
        have hm:t∈[37,34]:=by simpa [or_assoc] using Array.mem_of_getElem? ht
        have hall:([37,34].all fun u=>!Tryd.prog.wantsStandIn u)=true:=by kernel_rfl
        exact (show Tryd.prog.wantsStandIn t=false by simpa using List.all_eq_true.1 hall t hm)⟩)
    (by kernel_rfl)
#print axioms card_holds
end Go.Proofs.YtaojbkphcnailaaDoor.parseBackRow
