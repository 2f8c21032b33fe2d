/-
  AuditTells: Guards, Guarded, InForce, Check, Name and Crashes return the results of the reference.
  Conditions: those of the given statement (at most 100 events, 30 links, 12 hosts, and 8 routes of 12 rows of 12 ports).
-/
import Derived.Test.YtijkmhmgigaieaaAu13
import Derived.Test.YtijkmhmgigaieaaTp5
import Derived.Test.YtijkmhmgigaieaaTc15e
import Derived.Test.YtijkmhmgigaieaaRows
import Derived.ProofKit
import Derived.OpenShut
import Derived.ChangeOld
import Derived.Carry
namespace Go.Proofs.Ytijkmhmgigaieaa.auditTellsRow
open Go.ChangeShapes Go.WideShapes Go.ChangeAt Go.RowKit Go.Sx
open Go.ChangeMaps (open_string shut_string)
theorem own:ownKnob Try.prog.godebug=none:=by kernel_rfl
theorem laidOut:laidOutB Try.prog=true:=by kernel_rfl
theorem fit_i64 {x:Int} (h:(Lit.int .i64 x).wf=true) : -9223372036854775808≤x∧x≤9223372036854775807:=by
  have e1:IntKind.i64.min = -9223372036854775808:=by decide
  have e2:IntKind.i64.max=9223372036854775807:=by decide
  simp only [Lit.wf,e1,e2,Bool.and_eq_true,decide_eq_true_eq] at h
  exact h
set_option maxRecDepth 100000 in
theorem lifted (os:Os) (started:os.Started) (H:Type) (enc:TypeId × Value→H) :
    ReturnsInHanded {} Try.checked os 6 .any (Rows.auditTellsSpec.pre6 enc Try.prog Try.f6 Rows.auditTellsRow.domain false) (Rows.auditTellsSpec.post enc Try.prog Try.f6 false true false false):=by
  refine returnsInHanded_of_change (C:=Try.checked) own started (by kernel_rfl) Try.func6
    (ChangeSpec.witness6 (enc:=enc) (C:=Try.checked) false ⟨#[],#[.agg #[.int .i64 0,.slice none 0 0,.slice none 0 0],.slice none 0 0,.slice none 0 0,.int .i64 0],[]⟩ 8 (by kernel_rfl) (by kernel_rfl) (by kernel_rfl) (by kernel_rfl)) ?_
  intro W base args ds gs before hval0 hW hcnd _
  have hval:∀ (j:Nat) t v,Try.f6.params[j]?=some t→args[j]?=some v→Value.okWide Try.prog W .any base t v:=hval0
  have hW':=hW
  obtain ⟨p,q,hA0,hV,rfl,hfz,hnd⟩:=hW
  have hA:DataW.TrodAll enc Try.prog W 0 (fun _=>true) true Try.f6.params.toList args.toList ds p:=hA0
  rw [Try.params6] at hA hval
  obtain ⟨v0,vs0,d0,ds0,p0,q0,hargs,rfl,rfl,h0,t0⟩:=trodAll_cons hA
  obtain ⟨v1,vs1,d1,ds1,p1,q1,rfl,rfl,rfl,h1,t1⟩:=trodAll_cons t0
  obtain ⟨v2,vs2,d2,ds2,p2,q2,rfl,rfl,rfl,h2,t2⟩:=trodAll_cons t1
  obtain ⟨v3,vs3,d3,ds3,p3,q3,rfl,rfl,rfl,h3,t3⟩:=trodAll_cons t2
  obtain ⟨rfl,rfl,rfl⟩:=trodAll_nil t3
  obtain rfl:args=#[v0,v1,v2,v3]:=by cases args;simp_all
  obtain ⟨rfl,rfl⟩:=trodVars_none hV
  have k0:=h0
  have lt0:∀ x∈p0,x.block<W.heap.size:=by obtain ⟨m,hm⟩:=k0;exact DataW.trod_lt m _ _ _ hm
  have k1:=h1
  have lt1:∀ x∈p1,x.block<W.heap.size:=by obtain ⟨m,hm⟩:=k1;exact DataW.trod_lt m _ _ _ hm
  have k2:=h2
  have lt2:∀ x∈p2,x.block<W.heap.size:=by obtain ⟨m,hm⟩:=k2;exact DataW.trod_lt m _ _ _ hm
  have k3:=h3
  have lt3:∀ x∈p3,x.block<W.heap.size:=by obtain ⟨m,hm⟩:=k3;exact DataW.trod_lt m _ _ _ hm
  obtain ⟨fuel0,hf0⟩:=h0
  obtain ⟨cs0,hcs0,_⟩:∃ cs,v0 = .agg cs∧cs.size=Try.prog.cellsOf 25:=by
    have:=hval 0 25 v0 rfl rfl
    simp only [Value.okWide,Try.underlying25] at this
    obtain ⟨cs,h1,h2,_⟩:=this
    exact ⟨cs,h1,h2⟩
  subst hcs0
  obtain ⟨_,hs0⟩:=Sch.of_trod 9 _ (.pair (.int .i64) (.pair (.sl (.pair (.int .i64) (.pair (.int .i64) (.pair (.int .i64) (.pair (.int .i64) (.pair (.int .i64) (.pair (.int .i64) .unit))))))) (.pair (.sl (.pair (.int .i64) (.pair (.int .i64) .unit))) .unit))) _ _ _ (by kernel_rfl) hf0
  obtain ⟨cs0⟩:=cs0
  simp only [Value.cells] at hs0
  obtain ⟨_,_,rfl,_,⟨x0_0,rfl,w0_0⟩,_,_,rfl,_,⟨x0_1,n0_1,rfl,ok0_1,nle0_1,el0_1⟩,_,_,rfl,_,⟨x0_2,n0_2,rfl,ok0_2,nle0_2,el0_2⟩,rfl⟩:=hs0
  have r0_0:=fit_i64 w0_0
  obtain ⟨l0_1,hl0_1,row0_1,q0_1⟩:=rowF_of (α:=Tp.Lk) (fun x vs=>vs=Tp.lkV x) Tp.lkI ok0_1 el0_1 (by
    rintro cs ⟨_,_,rfl,_,⟨x9_0,rfl,w9_0⟩,_,_,rfl,_,⟨x9_1,rfl,w9_1⟩,_,_,rfl,_,⟨x9_2,rfl,w9_2⟩,_,_,rfl,_,⟨x9_3,rfl,w9_3⟩,_,_,rfl,_,⟨x9_4,rfl,w9_4⟩,_,_,rfl,_,⟨x9_5,rfl,w9_5⟩,rfl⟩
    exact ⟨⟨x9_0,x9_1,x9_2,x9_3,x9_4,x9_5⟩,rfl,⟨fit_i64 w9_0,fit_i64 w9_1,fit_i64 w9_2,fit_i64 w9_3,fit_i64 w9_4,fit_i64 w9_5⟩⟩)
  subst hl0_1
  obtain ⟨A0_1,cap0_1,rfl,_,_⟩:=ok0_1
  obtain ⟨l0_2,hl0_2,row0_2,q0_2⟩:=rowF_of (α:=Tp.Hs) (fun x vs=>vs=Tp.hsV x) Tp.hsI ok0_2 el0_2 (by
    rintro cs ⟨_,_,rfl,_,⟨x9_0,rfl,w9_0⟩,_,_,rfl,_,⟨x9_1,rfl,w9_1⟩,rfl⟩
    exact ⟨⟨x9_0,x9_1⟩,rfl,⟨fit_i64 w9_0,fit_i64 w9_1⟩⟩)
  subst hl0_2
  obtain ⟨A0_2,cap0_2,rfl,_,_⟩:=ok0_2
  obtain ⟨fuel1,hf1⟩:=h1
  obtain ⟨a1,len1,cap1,rfl⟩:=okWide_slice Try.underlying38 (hval 1 38 v1 rfl rfl)
  obtain ⟨_,v1',n1,hv1,ok1,n1le,el1⟩:=Sch.of_trod 9 _ (.sl (.sl (.sl (.int .i64)))) _ _ _ (by kernel_rfl) hf1
  obtain rfl:Value.slice a1 len1 cap1=v1':=by simpa [Value.cells] using hv1
  obtain ⟨l1,hl1,row1,q1⟩:=rowF_of (α:=List (List Int)) (Au.RR (cellsW W)) (fun r=>r.length≤9223372036854775807) ok1 el1 (by
    rintro cs ⟨vA,nA,rfl,okA,leA,elA⟩
    obtain ⟨lA,hA,rowA,_⟩:=rowF_of (α:=List Int) (Rt.R (cellsW W)) (fun _=>True) okA elA (by
      rintro cs ⟨vB,nB,rfl,okB,leB,elB⟩
      obtain ⟨lB,hB,rowB,_⟩:=rowF_of (α:=Int) (fun z us=>us=[Value.int .i64 z]) (fun _=>True) okB elB (by
        rintro cs ⟨z,rfl,_⟩
        exact ⟨z,rfl,trivial⟩)
      subst hB
      obtain ⟨AB,cB,rfl,_,_⟩:=okB
      exact ⟨lB,⟨AB,cB,rowB,rfl⟩,trivial⟩)
    subst hA
    obtain ⟨AA,cA,rfl,_,_⟩:=okA
    exact ⟨lA,⟨AA,cA,rowA,rfl⟩,leA⟩)
  have le1:l1.length≤9223372036854775807:=hl1 ▸ n1le
  subst hl1
  obtain ⟨fuel2,hf2⟩:=h2
  obtain ⟨a2,len2,cap2,rfl⟩:=okWide_slice Try.underlying35 (hval 2 35 v2 rfl rfl)
  obtain ⟨_,v2',n2,hv2,ok2,n2le,el2⟩:=Sch.of_trod 9 _ (.sl (.pair (.int .i64) (.pair (.int .i64) (.pair (.int .i64) (.pair (.int .i64) (.pair (.int .i64) (.pair (.int .i64) .unit))))))) _ _ _ (by kernel_rfl) hf2
  obtain rfl:Value.slice a2 len2 cap2=v2':=by simpa [Value.cells] using hv2
  obtain ⟨l2,hl2,row2,q2⟩:=rowF_of (α:=Tc.E) (fun x vs=>vs=Tc.E.V x) Tc.E.Ok ok2 el2 (by
    rintro cs ⟨_,_,rfl,_,⟨x2_0,rfl,w2_0⟩,_,_,rfl,_,⟨x2_1,rfl,w2_1⟩,_,_,rfl,_,⟨x2_2,rfl,w2_2⟩,_,_,rfl,_,⟨x2_3,rfl,w2_3⟩,_,_,rfl,_,⟨x2_4,rfl,w2_4⟩,_,_,rfl,_,⟨x2_5,rfl,w2_5⟩,rfl⟩
    exact ⟨⟨x2_0,x2_1,x2_2,x2_3,x2_4,x2_5⟩,rfl,⟨fit_i64 w2_0,fit_i64 w2_1,fit_i64 w2_2,fit_i64 w2_3,fit_i64 w2_4,fit_i64 w2_5⟩⟩)
  subst hl2
  obtain ⟨x3,rfl,rfl,rfl,w3⟩:=open_int Try.underlying3 (hval 3 3 v3 rfl rfl) h3
  have r3:=fit_i64 w3
  clear hA0 hval0
  have hc:NCall Try.prog 6 [.agg [.int .i64 x0_0,.hs (.slice A0_1 l0_1.length cap0_1) l0_1.length,.hs (.slice A0_2 l0_2.length cap0_2) l0_2.length],.hs (.slice a1 len1 cap1) l1.length,.hs (.slice a2 len2 cap2) l2.length,.int .i64 x3] [hpB (cellsW W)] (fun r _=>r = .bool true):=ptells42_c (cellsW W) ⟨x0_0,l0_1,l0_2⟩ _ _ _ _ l1 l2 x3 ⟨row0_1,row0_2⟩ row1 ⟨n1le,q1⟩ row2 n2le
  rw [NCall_iff] at hc
  have hc:Calls Try.prog 6 #[.agg #[.int .i64 x0_0,.slice A0_1 l0_1.length cap0_1,.slice A0_2 l0_2.length cap0_2],.slice a1 len1 cap1,.slice a2 len2 cap2,.int .i64 x3] W _:=hc.2 W (memOk_heap W)
  refine hc.mono fun e W' ⟨r,m',h,he,_,hf,_⟩=>?_
  subst h
  subst he
  have bel:=below_heap hf
  exact ⟨_,rfl,_,_,_,[],_,[],hW',trodAll_mk1 (shut_bool Try.underlying4 _),(trodAll_cons_mk (Below.trod laidOut (by kernel_rfl) (of_decide_eq_true (by kernel_rfl)) k0 bel lt0) (trodAll_cons_mk (Below.trod laidOut (by kernel_rfl) (of_decide_eq_true (by kernel_rfl)) k1 bel lt1) (trodAll_cons_mk (Below.trod laidOut (by kernel_rfl) (of_decide_eq_true (by kernel_rfl)) k2 bel lt2) (trodAll_cons_mk (Below.trod laidOut (by kernel_rfl) (of_decide_eq_true (by kernel_rfl)) k3 bel lt3) trodAll_mk0)))),rfl,bel.frame _,fun h=>by cases h⟩
theorem holds:Rows.AuditTellsSaid :=
  OpenClaim.holds_of_wide 6 Try.f6 rfl rfl rfl rfl rfl rfl rfl ⟨rfl,rfl,rfl,rfl,rfl⟩ rfl rfl rfl rfl rfl (by kernel_rfl) Try.func6 (by kernel_rfl)
    (of_decide_eq_true (by kernel_rfl)) (by unfold Func.isWrapper;first | (rw [if_pos (by decide +kernel)];kernel_rfl) | (rw [if_neg (by decide +kernel)];exact ⟨rfl,rfl⟩))
    (fun os started H enc _=>lifted os started H enc)
#print axioms holds
end Go.Proofs.Ytijkmhmgigaieaa.auditTellsRow
