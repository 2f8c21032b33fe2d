/-
  SetupTells, the tied card: Text and Parse return the results and errors of the reference.
  Conditions: those of the given statement (at most 30 links, 30 hosts, 10 sets of 30 weights, 30 starts and 2000 bytes).
-/
import Derived.Test.YtgphhbadnjfbjaaDoorSu29
import Derived.Test.YtgphhbadnjfbjaaDoorCard2e
import Derived.Test.YtgphhbadnjfbjaaDoorRows
import Derived.ProofKit
import Derived.OpenShut
import Derived.ChangeOld
import Derived.Carry
import Derived.Test.YtgphhbadnjfbjaaDoorCard
import Derived.Test.YtgphhbadnjfbjaaDoorTie
import Derived.Test.YtgphhbadnjfbjaaDoorCards
import Derived.SevenTiedAt
import Derived.LaidMore
import Derived.Stop.Joined
import Derived.Lay
namespace Go.Proofs.YtgphhbadnjfbjaaDoor.setupTellsRow
open Go.ChangeShapes Go.WideShapes Go.ChangeAt Go.RowKit Go.Sx
open Go.ChangeMaps (open_string shut_string)
theorem own:ownKnob Tryd.prog.godebug=none:=by kernel_rfl
theorem laidOut:laidOutB Tryd.prog=true:=by kernel_rfl
theorem fit_i64 {x:Int} (h:(Lit.int .i64 x).wf=true) : -9223372036854775808≤x∧x≤9223372036854775807:=by
  have e1:IntKind.i64.min = -9223372036854775808:=by decide
  have e2:IntKind.i64.max=9223372036854775807:=by decide
  simp only [Lit.wf,e1,e2,Bool.and_eq_true,decide_eq_true_eq] at h
  exact h
theorem fit_u64 {x:Int} (h:(Lit.int .u64 x).wf=true):0≤x∧x≤18446744073709551615:=by
  have e1:IntKind.u64.min=0:=by decide
  have e2:IntKind.u64.max=18446744073709551615:=by decide
  simp only [Lit.wf,e1,e2,Bool.and_eq_true,decide_eq_true_eq] at h
  exact h
theorem fit_str {s:ByteArray} (h:s.size≤maxLen):s.data.toList.length≤9223372036854775807:=by
  have e:s.data.toList.length=s.size:=Array.length_toList
  rw [e]
  unfold maxLen at h
  omega
theorem door_met (os:Os) (args:Array Value):laidMetH Tryd.prog Rows.setupTellsRow.laid ((World.laidAll Tryd.prog os Rows.setupTellsRow.laid).forCall (fun _ _=>0) ⟨#[],args,[]⟩).memory:=by
  rw [MakeChecks.laidMetH_plain _ _ _ (by kernel_rfl)]
  exact laidMet_laidAll args (by kernel_rfl) (by kernel_rfl)
set_option maxRecDepth 100000 in
theorem lifted (os:Os) (started:os.Started) (H:Type) (enc:TypeId × Value→H) :
    ReturnsInHanded {} Tryd.checked os 3 .any (fun w args=>(Rows.setupTellsSpec.pre enc Tryd.prog Tryd.f3 [] false w args∧laidMetH Tryd.prog Rows.setupTellsRow.laid w)∧sizedMet enc Tryd.prog Tryd.f3 (OpenSpec.ofChange Rows.setupTellsSpec) false w args) (Rows.setupTellsSpec.post enc Tryd.prog Tryd.f3 false true false false):=by
  refine returnsInHanded_of_change_and (C:=Tryd.checked) (X:=fun w _=>laidMetH Tryd.prog Rows.setupTellsRow.laid w) (fun _ _ _ hh h=>h.of_heap hh) own started (by kernel_rfl) Tryd.func3
    (ChangeSpec.witness_shaped (enc:=enc) (C:=Tryd.checked) (os:=os) (X:=fun w _=>laidMetH Tryd.prog Rows.setupTellsRow.laid w) false (World.laidAll Tryd.prog os Rows.setupTellsRow.laid) #[.agg #[.int .i64 0,.slice none 0 0,.slice none 0 0,.slice none 0 0,.slice none 0 0,.int .i64 0,.int .i64 0,.int .i64 0,.int .i64 0,.int .i64 0,.int .i64 0],.agg #[.int .i64 0,.slice none 0 0,.slice none 0 0,.slice none 0 0,.slice none 0 0,.int .i64 0,.int .i64 0,.int .i64 0,.int .i64 0,.int .i64 0,.int .i64 0],.string ⟨#[]⟩] 8 (World.laidAll_os _ _ _) (World.shaped_of_ZipB (by kernel_rfl) (by kernel_rfl)) (by kernel_rfl) (by kernel_rfl) (by kernel_rfl) (door_met os _)) ?_
  intro W base args ds gs before hval0 hW _ hZ hL _
  have hT:TabF (cellsW W):=tabF_of (by kernel_rfl) hL (by first | exact .head _ | exact .tail _ (.head _) | exact .tail _ (.tail _ (.head _)) | exact .tail _ (.tail _ (.tail _ (.head _))))
  have hE:ErrF (cellsW W):=errF_of (by kernel_rfl) hL (by first | exact .head _ | exact .tail _ (.head _) | exact .tail _ (.tail _ (.head _)) | exact .tail _ (.tail _ (.tail _ (.head _))) | exact .tail _ (.tail _ (.tail _ (.tail _ (.head _)))) | exact .tail _ (.tail _ (.tail _ (.tail _ (.tail _ (.head _)))))) (by first | exact .head _ | exact .tail _ (.head _) | exact .tail _ (.tail _ (.head _)) | exact .tail _ (.tail _ (.tail _ (.head _))) | exact .tail _ (.tail _ (.tail _ (.tail _ (.head _)))) | exact .tail _ (.tail _ (.tail _ (.tail _ (.tail _ (.head _))))))
  have hval:∀ (j:Nat) t v,Tryd.f3.params[j]?=some t→args[j]?=some v→Value.okWide Tryd.prog W .any base t v:=hval0
  have hW':=hW
  obtain ⟨p,q,hA0,hV,rfl,hfz,hnd⟩:=hW
  have hA:DataW.TrodAll enc Tryd.prog W 0 (fun _=>true) true Tryd.f3.params.toList args.toList ds p:=hA0
  rw [Tryd.params3] at hA hval
  obtain ⟨v0,vs0,d0,ds0,p0,q0,hargs,rfl,rfl,h0,t0⟩:=trodAll_cons hA
  obtain ⟨v1,vs1,d1,ds1,p1,q1,rfl,rfl,rfl,h1,t1⟩:=trodAll_cons t0
  obtain ⟨v2,vs2,d2,ds2,p2,q2,rfl,rfl,rfl,h2,t2⟩:=trodAll_cons t1
  obtain ⟨rfl,rfl,rfl⟩:=trodAll_nil t2
  obtain rfl:args=#[v0,v1,v2]:=by cases args;simp_all
  obtain ⟨rfl,rfl⟩:=trodVars_none hV
  have k0:=h0
  have lt0:∀ x∈p0,x.block<W.heap.size:=by obtain ⟨m,hm⟩:=k0;exact DataW.trod_lt m _ _ _ hm
  have k1:=h1
  have lt1:∀ x∈p1,x.block<W.heap.size:=by obtain ⟨m,hm⟩:=k1;exact DataW.trod_lt m _ _ _ hm
  have k2:=h2
  have lt2:∀ x∈p2,x.block<W.heap.size:=by obtain ⟨m,hm⟩:=k2;exact DataW.trod_lt m _ _ _ hm
  obtain ⟨fuel0,hf0⟩:=h0
  obtain ⟨cs0,hcs0,_⟩:∃ cs,v0 = .agg cs∧cs.size=Tryd.prog.cellsOf 29:=by
    have:=hval 0 29 v0 rfl rfl
    simp only [Value.okWide,Tryd.underlying29] at this
    obtain ⟨cs,h1,h2,_⟩:=this
    exact ⟨cs,h1,h2⟩
  subst hcs0
  obtain ⟨_,hs0⟩:=Sch.of_trod 9 _ (.pair (.pair (.int .i64) (.pair (.sl (.pair (.int .i64) (.pair (.int .i64) (.pair (.int .i64) (.pair (.int .i64) (.pair (.int .i64) (.pair (.int .i64) .unit))))))) (.pair (.sl (.pair (.int .i64) (.pair (.int .i64) .unit))) .unit))) (.pair (.sl (.sl (.int .u64))) (.pair (.sl (.int .i64)) (.pair (.int .i64) (.pair (.int .i64) (.pair (.int .i64) (.pair (.int .i64) (.pair (.int .i64) (.pair (.int .i64) .unit))))))))) _ _ _ (by kernel_rfl) hf0
  obtain ⟨cs0⟩:=cs0
  simp only [Value.cells] at hs0
  obtain ⟨_,_,rfl,_,⟨_,_,rfl,_,⟨x0_0,rfl,w0_0⟩,_,_,rfl,_,⟨x0_1,n0_1,rfl,ok0_1,nle0_1,el0_1⟩,_,_,rfl,_,⟨x0_2,n0_2,rfl,ok0_2,nle0_2,el0_2⟩,rfl⟩,_,_,rfl,_,⟨x0_3,n0_3,rfl,ok0_3,nle0_3,el0_3⟩,_,_,rfl,_,⟨x0_4,n0_4,rfl,ok0_4,nle0_4,el0_4⟩,_,_,rfl,_,⟨x0_5,rfl,w0_5⟩,_,_,rfl,_,⟨x0_6,rfl,w0_6⟩,_,_,rfl,_,⟨x0_7,rfl,w0_7⟩,_,_,rfl,_,⟨x0_8,rfl,w0_8⟩,_,_,rfl,_,⟨x0_9,rfl,w0_9⟩,_,_,rfl,_,⟨x0_10,rfl,w0_10⟩,rfl⟩:=hs0
  have r0_0:=fit_i64 w0_0
  obtain ⟨l0_1,hl0_1,row0_1,q0_1⟩:=rowF_of (α:=Su.Lk) (fun x vs=>vs=Su.lkV x) Su.LkOk ok0_1 el0_1 (by
    rintro cs ⟨_,_,rfl,_,⟨x9_0,rfl,w9_0⟩,_,_,rfl,_,⟨x9_1,rfl,w9_1⟩,_,_,rfl,_,⟨x9_2,rfl,w9_2⟩,_,_,rfl,_,⟨x9_3,rfl,w9_3⟩,_,_,rfl,_,⟨x9_4,rfl,w9_4⟩,_,_,rfl,_,⟨x9_5,rfl,w9_5⟩,rfl⟩
    exact ⟨⟨x9_0,x9_1,x9_2,x9_3,x9_4,x9_5⟩,rfl,⟨fit_i64 w9_0,fit_i64 w9_1,fit_i64 w9_2,fit_i64 w9_3,fit_i64 w9_4,fit_i64 w9_5⟩⟩)
  subst hl0_1
  obtain ⟨A0_1,cap0_1,rfl,_,_⟩:=ok0_1
  obtain ⟨l0_2,hl0_2,row0_2,q0_2⟩:=rowF_of (α:=Su.Hs) (fun x vs=>vs=Su.hsV x) Su.HsOk ok0_2 el0_2 (by
    rintro cs ⟨_,_,rfl,_,⟨x9_0,rfl,w9_0⟩,_,_,rfl,_,⟨x9_1,rfl,w9_1⟩,rfl⟩
    exact ⟨⟨x9_0,x9_1⟩,rfl,⟨fit_i64 w9_0,fit_i64 w9_1⟩⟩)
  subst hl0_2
  obtain ⟨A0_2,cap0_2,rfl,_,_⟩:=ok0_2
  obtain ⟨l0_3,hl0_3,row0_3,q0_3⟩:=rowF_of (α:=List Nat × Value) (fun x us=>us=Su.wtV x) (Su.WtOk (cellsW W)) ok0_3 el0_3 (by
    rintro cs ⟨vB,nB,rfl,okB,leB,elB⟩
    obtain ⟨lB,hB,rowB,qB⟩:=rowF_of (α:=Nat) (fun x us=>us=Su.hexV x) (fun x=>x<18446744073709551616) okB elB (by
      rintro cs ⟨y,rfl,wy⟩
      have ry:=fit_u64 wy
      exact ⟨y.toNat,by rw [Su.hexV,Int.toNat_of_nonneg ry.1],by omega⟩)
    subst hB
    obtain ⟨AB,cB,rfl,_,_⟩:=okB
    exact ⟨(lB,.slice AB lB.length cB),rfl,rowB,qB⟩)
  subst hl0_3
  obtain ⟨A0_3,cap0_3,rfl,_,_⟩:=ok0_3
  obtain ⟨l0_4,hl0_4,row0_4,q0_4⟩:=rowF_of (α:=Int) (fun x us=>us=Su.intV x) Su.w64 ok0_4 el0_4 (by
    rintro cs ⟨y,rfl,wy⟩
    exact ⟨y,rfl,fit_i64 wy⟩)
  subst hl0_4
  obtain ⟨A0_4,cap0_4,rfl,_,_⟩:=ok0_4
  have r0_5:=fit_i64 w0_5
  have r0_6:=fit_i64 w0_6
  have r0_7:=fit_i64 w0_7
  have r0_8:=fit_i64 w0_8
  have r0_9:=fit_i64 w0_9
  have r0_10:=fit_i64 w0_10
  obtain ⟨fuel1,hf1⟩:=h1
  obtain ⟨cs1,hcs1,_⟩:∃ cs,v1 = .agg cs∧cs.size=Tryd.prog.cellsOf 29:=by
    have:=hval 1 29 v1 rfl rfl
    simp only [Value.okWide,Tryd.underlying29] at this
    obtain ⟨cs,h1,h2,_⟩:=this
    exact ⟨cs,h1,h2⟩
  subst hcs1
  obtain ⟨_,hs1⟩:=Sch.of_trod 9 _ (.pair (.pair (.int .i64) (.pair (.sl (.pair (.int .i64) (.pair (.int .i64) (.pair (.int .i64) (.pair (.int .i64) (.pair (.int .i64) (.pair (.int .i64) .unit))))))) (.pair (.sl (.pair (.int .i64) (.pair (.int .i64) .unit))) .unit))) (.pair (.sl (.sl (.int .u64))) (.pair (.sl (.int .i64)) (.pair (.int .i64) (.pair (.int .i64) (.pair (.int .i64) (.pair (.int .i64) (.pair (.int .i64) (.pair (.int .i64) .unit))))))))) _ _ _ (by kernel_rfl) hf1
  obtain ⟨cs1⟩:=cs1
  simp only [Value.cells] at hs1
  obtain ⟨_,_,rfl,_,⟨_,_,rfl,_,⟨x1_0,rfl,w1_0⟩,_,_,rfl,_,⟨x1_1,n1_1,rfl,ok1_1,nle1_1,el1_1⟩,_,_,rfl,_,⟨x1_2,n1_2,rfl,ok1_2,nle1_2,el1_2⟩,rfl⟩,_,_,rfl,_,⟨x1_3,n1_3,rfl,ok1_3,nle1_3,el1_3⟩,_,_,rfl,_,⟨x1_4,n1_4,rfl,ok1_4,nle1_4,el1_4⟩,_,_,rfl,_,⟨x1_5,rfl,w1_5⟩,_,_,rfl,_,⟨x1_6,rfl,w1_6⟩,_,_,rfl,_,⟨x1_7,rfl,w1_7⟩,_,_,rfl,_,⟨x1_8,rfl,w1_8⟩,_,_,rfl,_,⟨x1_9,rfl,w1_9⟩,_,_,rfl,_,⟨x1_10,rfl,w1_10⟩,rfl⟩:=hs1
  have r1_0:=fit_i64 w1_0
  obtain ⟨l1_1,hl1_1,row1_1,q1_1⟩:=rowF_of (α:=Su.Lk) (fun x vs=>vs=Su.lkV x) Su.LkOk ok1_1 el1_1 (by
    rintro cs ⟨_,_,rfl,_,⟨x9_0,rfl,w9_0⟩,_,_,rfl,_,⟨x9_1,rfl,w9_1⟩,_,_,rfl,_,⟨x9_2,rfl,w9_2⟩,_,_,rfl,_,⟨x9_3,rfl,w9_3⟩,_,_,rfl,_,⟨x9_4,rfl,w9_4⟩,_,_,rfl,_,⟨x9_5,rfl,w9_5⟩,rfl⟩
    exact ⟨⟨x9_0,x9_1,x9_2,x9_3,x9_4,x9_5⟩,rfl,⟨fit_i64 w9_0,fit_i64 w9_1,fit_i64 w9_2,fit_i64 w9_3,fit_i64 w9_4,fit_i64 w9_5⟩⟩)
  subst hl1_1
  obtain ⟨A1_1,cap1_1,rfl,_,_⟩:=ok1_1
  obtain ⟨l1_2,hl1_2,row1_2,q1_2⟩:=rowF_of (α:=Su.Hs) (fun x vs=>vs=Su.hsV x) Su.HsOk ok1_2 el1_2 (by
    rintro cs ⟨_,_,rfl,_,⟨x9_0,rfl,w9_0⟩,_,_,rfl,_,⟨x9_1,rfl,w9_1⟩,rfl⟩
    exact ⟨⟨x9_0,x9_1⟩,rfl,⟨fit_i64 w9_0,fit_i64 w9_1⟩⟩)
  subst hl1_2
  obtain ⟨A1_2,cap1_2,rfl,_,_⟩:=ok1_2
  obtain ⟨l1_3,hl1_3,row1_3,q1_3⟩:=rowF_of (α:=List Nat × Value) (fun x us=>us=Su.wtV x) (Su.WtOk (cellsW W)) ok1_3 el1_3 (by
    rintro cs ⟨vB,nB,rfl,okB,leB,elB⟩
    obtain ⟨lB,hB,rowB,qB⟩:=rowF_of (α:=Nat) (fun x us=>us=Su.hexV x) (fun x=>x<18446744073709551616) okB elB (by
      rintro cs ⟨y,rfl,wy⟩
      have ry:=fit_u64 wy
      exact ⟨y.toNat,by rw [Su.hexV,Int.toNat_of_nonneg ry.1],by omega⟩)
    subst hB
    obtain ⟨AB,cB,rfl,_,_⟩:=okB
    exact ⟨(lB,.slice AB lB.length cB),rfl,rowB,qB⟩)
  subst hl1_3
  obtain ⟨A1_3,cap1_3,rfl,_,_⟩:=ok1_3
  obtain ⟨l1_4,hl1_4,row1_4,q1_4⟩:=rowF_of (α:=Int) (fun x us=>us=Su.intV x) Su.w64 ok1_4 el1_4 (by
    rintro cs ⟨y,rfl,wy⟩
    exact ⟨y,rfl,fit_i64 wy⟩)
  subst hl1_4
  obtain ⟨A1_4,cap1_4,rfl,_,_⟩:=ok1_4
  have r1_5:=fit_i64 w1_5
  have r1_6:=fit_i64 w1_6
  have r1_7:=fit_i64 w1_7
  have r1_8:=fit_i64 w1_8
  have r1_9:=fit_i64 w1_9
  have r1_10:=fit_i64 w1_10
  obtain ⟨x2,rfl,rfl,rfl,w2⟩:=open_string Tryd.underlying9 (hval 2 9 v2 rfl rfl) h2
  have l2:=fit_str w2
  clear hA0 hval0
  have hc:NCall Tryd.prog 3 [.agg [.int .i64 x0_0,.hs (.slice A0_1 l0_1.length cap0_1) l0_1.length,.hs (.slice A0_2 l0_2.length cap0_2) l0_2.length,.hs (.slice A0_3 l0_3.length cap0_3) l0_3.length,.hs (.slice A0_4 l0_4.length cap0_4) l0_4.length,.int .i64 x0_5,.int .i64 x0_6,.int .i64 x0_7,.int .i64 x0_8,.int .i64 x0_9,.int .i64 x0_10],.agg [.int .i64 x1_0,.hs (.slice A1_1 l1_1.length cap1_1) l1_1.length,.hs (.slice A1_2 l1_2.length cap1_2) l1_2.length,.hs (.slice A1_3 l1_3.length cap1_3) l1_3.length,.hs (.slice A1_4 l1_4.length cap1_4) l1_4.length,.int .i64 x1_5,.int .i64 x1_6,.int .i64 x1_7,.int .i64 x1_8,.int .i64 x1_9,.int .i64 x1_10],.str x2.data.toList] [hpB (cellsW W)] (fun r _=>r = .bool true):=tells40_row _ hT hE row0_1 q0_1 row0_2 q0_2 row0_3 q0_3 row0_4 q0_4 nle0_3 r0_0 r0_5 r0_6 r0_7 r0_8 r0_9 r0_10 row1_1 q1_1 row1_2 q1_2 row1_3 q1_3 row1_4 q1_4 nle1_3 r1_0 r1_5 r1_6 r1_7 r1_8 r1_9 r1_10 _ l2
  rw [NCall_iff] at hc
  have hc:Calls Tryd.prog 3 #[.agg #[.int .i64 x0_0,.slice A0_1 l0_1.length cap0_1,.slice A0_2 l0_2.length cap0_2,.slice A0_3 l0_3.length cap0_3,.slice A0_4 l0_4.length cap0_4,.int .i64 x0_5,.int .i64 x0_6,.int .i64 x0_7,.int .i64 x0_8,.int .i64 x0_9,.int .i64 x0_10],.agg #[.int .i64 x1_0,.slice A1_1 l1_1.length cap1_1,.slice A1_2 l1_2.length cap1_2,.slice A1_3 l1_3.length cap1_3,.slice A1_4 l1_4.length cap1_4,.int .i64 x1_5,.int .i64 x1_6,.int .i64 x1_7,.int .i64 x1_8,.int .i64 x1_9,.int .i64 x1_10],.string x2] W _:=hc.2 W (memOk_heap W)
  refine hc.mono fun e W' ⟨r,m',h,he,_,hf,_⟩=>?_
  subst h
  subst he
  have bel:=below_heap hf
  exact ⟨_,rfl,_,_,_,[],_,[],hW',trodAll_mk1 (shut_bool Tryd.underlying4 _),(trodAll_cons_mk (Below.trod laidOut (by kernel_rfl) (of_decide_eq_true (by kernel_rfl)) k0 bel lt0) (trodAll_cons_mk (Below.trod laidOut (by kernel_rfl) (of_decide_eq_true (by kernel_rfl)) k1 bel lt1) (trodAll_cons_mk (Below.trod laidOut (by kernel_rfl) (of_decide_eq_true (by kernel_rfl)) k2 bel lt2) trodAll_mk0))),rfl,bel.frame _,fun h=>by cases h⟩
theorem holds:Rows.SetupTellsSaid :=
  OpenClaim.holds_of_wide 3 Tryd.f3 rfl rfl rfl rfl rfl rfl rfl ⟨rfl,rfl,rfl,rfl,rfl⟩ rfl rfl rfl rfl rfl (by kernel_rfl) Tryd.func3 (by kernel_rfl)
    (of_decide_eq_true (by kernel_rfl)) (by unfold Func.isWrapper;first | (rw [if_pos (by decide +kernel)];kernel_rfl) | (rw [if_neg (by decide +kernel)];exact ⟨rfl,rfl⟩))
    (fun os started H enc _=>lifted os started H enc)
theorem card_holds:Rows.SetupTellsCardSaid :=
  Claim7.holds_tied_plain_at .later [] [.data, .data, .data, .data, .sentinel, .sentinel, .pinned] true (true, "21b07aca38157e64615ba8e535a7eb42b3dacb3a0f56a58c1fb922be5986897c") true
    holds (fun _ h=>by cases h) (by kernel_rfl) (fun _ h=>by cases h) setupTells_row_tie rfl ⟨rfl,rfl⟩ (by kernel_rfl) rfl
    (fun f fn hf hfn=>by
      obtain rfl : f = 3 := Option.some.inj ((show Tryd.prog.funcNamed "turnout/turnoutlaw40.SetupTells" = some 3 by kernel_rfl).symm.trans hf) |>.symm
      obtain rfl:fn=Tryd.f3:=(Option.some.inj (Tryd.func3.symm.trans hfn)).symm
      exact ⟨by kernel_rfl,fun j t ht=>by
        rw [Tryd.params3] at ht
        have hm:t∈[29,29,9]:=by simpa [or_assoc] using Array.mem_of_getElem? ht
        have hall:([29,29,9].all fun u=>!Tryd.prog.wantsStandIn u)=true:=by kernel_rfl
        exact (show Tryd.prog.wantsStandIn t=false by simpa using List.all_eq_true.1 hall t hm)⟩)
    (by kernel_rfl)
#print axioms card_holds
end Go.Proofs.YtgphhbadnjfbjaaDoor.setupTellsRow
