import Derived.Test.YtaojbkphcnailaaDoorJ9
import Derived.Test.YtaojbkphcnailaaDoorJ11
namespace Go.Proofs.YtaojbkphcnailaaDoor
open Go.Sx
set_option maxRecDepth 20000
set_option linter.unusedSimpArgs false
set_option linter.unusedVariables false
set_option maxHeartbeats 4000000
set_option linter.unusedVariables false
namespace Ps
def Apart (l:List Lx.T):Prop:=∀ (i:Nat) (x:Lx.T),l[i]?=some x→x.k=3→x.s ∉ words
theorem words_at:∀ f:Nat,f<6→words[f]?=some (Pd.word f):=by decide +kernel
theorem is_at {l:List Lx.T} {i:Nat} {x:Lx.T} (hx:l[i]?=some x) (ha:Apart l) {f:Nat} (hf:f<6):is (l.map Lx.b) i (Pd.word f)=true↔(x.k=1∧x.s=Pd.word f):=by
  rw [is_b hx]
  simp only [Bool.and_eq_true,Bool.or_eq_true,decide_eq_true_eq]
  constructor
  · rintro ⟨h1 | h1,h2⟩
    · exact ⟨h1,h2⟩
    · exact (ha i x hx h1 (by rw [h2];exact List.mem_of_getElem? (words_at f hf))).elim
  · rintro ⟨h1,h2⟩
    exact ⟨.inl h1,h2⟩
theorem field_hit {l:List Lx.T} {i:Nat} {x:Lx.T} (hx:l[i]?=some x) (ha:Apart l) {many f:Nat} (hm:many≤6) (hf:f<many) (hno:∀ g:Nat,g<f→is (l.map Lx.b) i (Pd.word g)=false) (hy:is (l.map Lx.b) i (Pd.word f)=true):field (l.map Lx.b) i many=some f:=by
  obtain ⟨h1,h2⟩:=(is_at hx ha (by omega)).1 hy
  unfold field
  rw [tk_b hx]
  rw [show (Lx.b x).k=1 from h1,if_pos rfl]
  have hl:(words.take many).length=many:=by rw [List.length_take];show min many 6=many;omega
  refine List.findIdx?_eq_some_iff_getElem.2 ⟨by omega,?_,fun j hj=>?_⟩
  · have:=words_at f (by omega)
    rw [List.getElem_take]
    rw [decide_eq_true_eq]
    have e:words[f]'(by show f<6;omega)=Pd.word f:=(List.getElem?_eq_some_iff.1 this).2
    rw [e];exact h2.symm
  · have:=words_at j (by omega)
    rw [List.getElem_take]
    have e:words[j]'(by show j<6;omega)=Pd.word j:=(List.getElem?_eq_some_iff.1 this).2
    rw [decide_eq_true_eq,e]
    intro he
    have:=(is_at hx ha (f:=j) (by omega)).2 ⟨h1,he.symm⟩
    rw [hno j hj] at this;cases this
theorem field_no {l:List Lx.T} {i:Nat} {x:Lx.T} (hx:l[i]?=some x) (ha:Apart l) {many:Nat} (hm:many≤6) (hno:∀ g:Nat,g<many→is (l.map Lx.b) i (Pd.word g)=false):field (l.map Lx.b) i many=none:=by
  unfold field
  rw [tk_b hx]
  split
  · rename_i h1
    have hl:(words.take many).length=many:=by rw [List.length_take];show min many 6=many;omega
    refine List.findIdx?_eq_none_iff.2 fun w hw=>?_
    obtain ⟨j,hj⟩:=List.getElem?_of_mem hw
    have hjl:=(List.getElem?_eq_some_iff.1 hj).1
    rw [hl] at hjl
    rw [List.getElem?_take_of_lt hjl,words_at j (by omega)] at hj
    injection hj with hj
    subst hj
    rw [decide_eq_false_iff_not]
    intro he
    have:=(is_at hx ha (f:=j) (by omega)).2 ⟨h1,he.symm⟩
    rw [hno j hjl] at this;cases this
  · rfl
def fieldI (l:List Lx.B) (i many:Nat):Int:=match field l i many with
  | some f=>(f:Nat)
  | none=>-1
end Ps
section
variable (F:Heap) (v:Value) (l:List Lx.T) (hv:Ps.Toks F v l) (hn:l.length≤1000)
include hv hn
theorem refis29_c {i:Nat} {x:Lx.T} (hx:l[i]?=some x) (s:List UInt8):NCall Tryd.prog 66 [.hs v l.length,.int .i64 i,.str s] [hpB F] fun r m=>r = .bool (Ps.is (l.map Lx.b) i s)∧m=[hpB F]:=by
  refine NCall.fits (K:=fun r m=>r = .bool (Ps.is (l.map Lx.b) i s)∧MemFits m [hpB F]) ?_ fun r m' h=>⟨r,_,rfl,h.2,h.1,rfl⟩
  have hn2:=hn
  have hok:=hv.ok
  have hil:=(List.getElem?_eq_some_iff.1 hx).1
  obtain ⟨c0,c1,c2,c3⟩:=hv.get hx
  rw [Ps.is_b hx]
  obtain ⟨k,n,t,a⟩:=x
  dsimp only at *
  refine ncall_of Tryd.func66 rfl (by decide) ?_
  by_cases k1:k=1
  · (repeat' (first|(with_reducible first|(refine hK _ _ ?_;clear hK K)|(refine hK _ ?_;clear hK K))|((with_reducible first|refine z25 ?_|refine z26 ?_);intro K hK;(conv=>whnf))|(with_reducible refine z0 ?_)|((first|((with_reducible refine NIf.decY ?s ?_);case s=>assumption)|((with_reducible refine NIf.yes ?s ?_);case s=>rfl)|(with_reducible first|refine NN.cast ?_|refine NN.a6 ?_|refine NN.keep ?_)|((with_reducible refine NH.mk ?s ?_);case s=>(and_intros<;>omega))|(with_reducible refine NLd.of (by with_reducible assumption) ?_))<;>(conv=>whnf))|(with_reducible first|refine z3 ?_|refine z4 ?_|refine z8 ?_|refine z1 ?_|refine z2 ?_)|((with_reducible refine gR ?_);(refine z31 rfl ?_;intro K hK;(conv=>whnf)))|((with_reducible refine gF ?_);(refine z33 rfl ?_;intro K hK;(conv=>whnf)))))
    all_goals exact ⟨by rw [decide_eq_true k1];simp,MemFits.pre 1 rfl⟩
  by_cases k3:k=3
  · (repeat' (first|(with_reducible first|(refine hK _ _ ?_;clear hK K)|(refine hK _ ?_;clear hK K))|((with_reducible first|refine z25 ?_|refine z26 ?_);intro K hK;(conv=>whnf))|(with_reducible refine z0 ?_)|((first|((with_reducible refine NIf.decY ?s ?_);case s=>assumption)|((with_reducible refine NIf.decN ?s ?_);case s=>assumption)|(with_reducible first|refine NN.cast ?_|refine NN.a6 ?_|refine NN.keep ?_)|((with_reducible refine NH.mk ?s ?_);case s=>(and_intros<;>omega))|(with_reducible refine NLd.of (by with_reducible assumption) ?_))<;>(conv=>whnf))|(with_reducible first|refine z3 ?_|refine z4 ?_|refine z8 ?_|refine z1 ?_|refine z2 ?_)|((with_reducible refine gR ?_);(refine z31 rfl ?_;intro K hK;(conv=>whnf)))|((with_reducible refine gF ?_);(refine z33 rfl ?_;intro K hK;(conv=>whnf)))))
    all_goals exact ⟨by rw [decide_eq_true k3];simp,MemFits.pre 1 rfl⟩
  · (repeat' (first|(with_reducible first|(refine hK _ _ ?_;clear hK K)|(refine hK _ ?_;clear hK K))|((with_reducible first|refine z25 ?_|refine z26 ?_);intro K hK;(conv=>whnf))|(with_reducible refine z0 ?_)|((first|((with_reducible refine NIf.decN ?s ?_);case s=>assumption)|(with_reducible first|refine NN.cast ?_|refine NN.a6 ?_|refine NN.keep ?_)|((with_reducible refine NH.mk ?s ?_);case s=>(and_intros<;>omega))|(with_reducible refine NLd.of (by with_reducible assumption) ?_))<;>(conv=>whnf))|(with_reducible first|refine z3 ?_|refine z4 ?_|refine z8 ?_|refine z1 ?_|refine z2 ?_)|((with_reducible refine gR ?_);(refine z31 rfl ?_;intro K hK;(conv=>whnf)))|((with_reducible refine gF ?_);(refine z33 rfl ?_;intro K hK;(conv=>whnf)))))
    all_goals exact ⟨by rw [decide_eq_false k1,decide_eq_false k3];simp,MemFits.pre 1 rfl⟩
theorem reffield_c (ha:Ps.Apart l) {i:Nat} (hi:i<l.length) (many:Nat) (hm:many≤6):NCall Tryd.prog 123 [.hs v l.length,.int .i64 i,.int .i64 many] [hpB F] fun r m=>r = .int .i64 (Ps.fieldI (l.map Lx.b) i many)∧m=[hpB F]:=by
  refine NCall.fits (K:=fun r m=>r = .int .i64 (Ps.fieldI (l.map Lx.b) i many)∧MemFits m [hpB F]) ?_ fun r m' h=>⟨r,_,rfl,h.2,h.1,rfl⟩
  have hok:=hv.ok
  have hx:l[i]?=some l[i]:=List.getElem?_eq_getElem hi
  have hhit:=fun f=>@Ps.field_hit l i _ hx ha many f hm
  have hnone:=@Ps.field_no l i _ hx ha many hm
  have cis:=refis29_c F v l hv hn hx
  refine ncall_of Tryd.func123 rfl (by decide) ?_
  (repeat' (first|(with_reducible first|(refine hK _ _ ?_;clear hK K)|(refine hK _ ?_;clear hK K))|((with_reducible refine z25 ?_);intro K hK;(conv=>whnf))|(with_reducible first|refine z0 ?_|refine z3 ?_|refine z4 ?_|refine z5 ?_|refine z1 ?_|refine z2 ?_)|((with_reducible refine gF ?_);(refine z33 rfl ?_;intro K hK;(conv=>whnf)))))
  refine st_auto (α:=Nat) (fun f=>f≤many∧∀ g:Nat,g<f→Ps.is (l.map Lx.b) i (Pd.word g)=false) (fun f=>[.keep,.keep,.keep,.keep,.keep,.keep,.drop,.set (.int .i64 f),.drop,.drop,.drop,.drop,.drop,.drop,.drop,.drop,.drop,.drop,.drop]) (fun _=>[]) (fun f=>many - f) 0 ⟨Nat.zero_le _,fun g hg=>by omega⟩ ?_ ?_ ?_
  · repeat (first|exact FitsSl.nil|refine FitsSl.any ?_|refine FitsSl.cons (Fit1.int (by first | rfl | omega)) ?_|refine FitsSl.cons (Fit1.same (by intro h;cases h) (by with_reducible rfl)) ?_)
  · exact MemFits.eq rfl
  (intro f ⟨hf,hno⟩;intro K hK;(conv=>whnf);refine hK _ _ ?_;clear hK K)
  by_cases hlt:f<many
  · have cw:=word26_c (f:Nat) (by omega)
    have cis:=cis (Pd.word (f:Nat))
    cases hq:Ps.is (l.map Lx.b) i (Pd.word (f:Nat)) with
    | true =>
      rw [hq] at cis
      have hres:Ps.fieldI (l.map Lx.b) i many=(f:Nat):=by unfold Ps.fieldI;rw [hhit f hlt hno hq]
      (repeat' (first|(with_reducible first|(refine hK _ _ ?_;clear hK K)|(refine hA ?_;clear hA hB A B)|(refine hK _ ?_;clear hK K))|((with_reducible refine z25 ?_);intro K hK;(conv=>whnf))|(with_reducible refine z0 ?_)|((first|((with_reducible refine NIf.decY ?s ?_);case s=>omega)|((with_reducible refine NIf.yes ?s ?_);case s=>rfl)|((with_reducible refine NCall.isF 38 ?_);refine NCall.pureE (cw) ?_)|((with_reducible refine NCall.isF 66 ?_);refine NCall.subE [0] (cis) rfl (by decide) rfl rfl ?_))<;>(conv=>whnf))|(with_reducible first|refine z3 ?_|refine z4 ?_|refine z5 ?_|refine z6 ?_|refine z8 ?_)|((with_reducible refine z29 ?_);intro A B hA hB;(conv=>whnf))|(with_reducible first|refine z1 ?_|refine z2 ?_|refine z12 ?_|refine z13 ?_|refine z20 ?_)|((with_reducible refine gR ?_);(refine z31 rfl ?_;intro K hK;(conv=>whnf)))))
      all_goals exact ⟨by rw [hres],MemFits.pre 1 rfl⟩
    | false =>
      rw [hq] at cis
      (repeat' (first|(with_reducible first|(refine hK _ _ ?_;clear hK K)|(refine hA ?_;clear hA hB A B)|(refine hB ?_;clear hA hB A B))|((with_reducible refine z25 ?_);intro K hK;(conv=>whnf))|(with_reducible refine z0 ?_)|((first|((with_reducible refine NV.i64 ?s ?_);case s=>omega)|((with_reducible refine NIf.decY ?s ?_);case s=>omega)|((with_reducible refine NIf.no ?s ?_);case s=>rfl)|((with_reducible refine NCall.isF 38 ?_);refine NCall.pureE (cw) ?_)|((with_reducible refine NCall.isF 66 ?_);refine NCall.subE [0] (cis) rfl (by decide) rfl rfl ?_))<;>(conv=>whnf))|(with_reducible first|refine z3 ?_|refine z4 ?_|refine z5 ?_|refine z6 ?_)|((with_reducible refine z29 ?_);intro A B hA hB;(conv=>whnf))|(with_reducible first|refine z1 ?_|refine z2 ?_|refine z9 ?_)))
      refine st_round (f+1) ⟨hlt,fun g hg=>?_⟩ (by omega) ?_ (MemFits.pre 1 rfl)
      · rcases Nat.lt_or_ge g f with h | h
        · exact hno g h
        · obtain rfl:g=f:=by omega
          exact hq
      · repeat (first|exact FitsSl.nil|refine FitsSl.any ?_|refine FitsSl.cons (Fit1.int (by first | rfl | omega)) ?_|refine FitsSl.cons (Fit1.same (by intro h;cases h) (by with_reducible rfl)) ?_)
  · have hres:Ps.fieldI (l.map Lx.b) i many = -1:=by unfold Ps.fieldI;rw [hnone fun g hg=>hno g (by omega)]
    (repeat' (first|(with_reducible first|(refine hK _ _ ?_;clear hK K)|(refine hB ?_;clear hA hB A B)|(refine hK _ ?_;clear hK K))|((with_reducible refine z25 ?_);intro K hK;(conv=>whnf))|(with_reducible refine z0 ?_)|(((with_reducible refine NIf.decN ?s ?_);case s=>omega)<;>(conv=>whnf))|(with_reducible first|refine z3 ?_|refine z4 ?_|refine z7 ?_|refine z8 ?_)|((with_reducible refine z29 ?_);intro A B hA hB;(conv=>whnf))|(with_reducible first|refine z1 ?_|refine z2 ?_|refine z10 ?_|refine z11 ?_|refine z19 ?_)|((with_reducible refine gR ?_);(refine z31 rfl ?_;intro K hK;(conv=>whnf)))))
    all_goals exact ⟨by rw [hres],MemFits.pre 1 rfl⟩
theorem refassign_c (hl:Ps.Good l) (ha:Ps.Apart l) {i:Nat} (hi:i<l.length) (many:Nat) (hm:many≤6) (sign:List UInt8):NCall Tryd.prog 110 [.hs v l.length,.int .i64 i,.int .i64 many,.str sign] [hpB F] fun r m =>
    ∃ (f w:Int) (j:Nat) (ok:Bool),i≤j∧j<l.length∧Ps.assign (l.map Lx.b) many sign i=(if ok=true then .ok (f,w) j else .bad j)∧r = .tup [.int .i64 f,.int .i64 w,.int .i64 j,.bool ok]∧m=[hpB F]:=by
  refine NCall.fits (K:=fun r m=>∃ (f w:Int) (j:Nat) (ok:Bool),i≤j∧j<l.length∧Ps.assign (l.map Lx.b) many sign i=(if ok=true then .ok (f,w) j else .bad j)∧r = .tup [.int .i64 f,.int .i64 w,.int .i64 j,.bool ok]∧MemFits m [hpB F]) ?_ fun r m' ⟨f,w,j,ok,h0,h1,h2,h3,h4⟩=>⟨r,_,rfl,h4,f,w,j,ok,h0,h1,h2,h3,rfl⟩
  have hok:=hv.ok
  have hx:l[i]?=some l[i]:=List.getElem?_eq_getElem hi
  have cf:=reffield_c F v l hv hn ha hi many hm
  unfold Ps.fieldI at cf
  have hkey:∀ q,Ps.field (l.map Lx.b) i many=some q→i+1<l.length:=fun q h=>by
    unfold Ps.field at h
    split at h
    · rename_i h1
      rw [Ps.tk_b hx] at h1
      exact hl.end_ i _ hx (by rw [show l[i].k=1 from h1];decide)
    · cases h
  unfold Ps.assign
  cases hq:Ps.field (l.map Lx.b) i many with
  | none =>
    rw [hq] at cf
    dsimp only at cf
    refine ncall_of Tryd.func110 rfl (by decide) ?_
    (repeat' (first|(with_reducible first|(refine hK _ _ ?_;clear hK K)|(refine hA ?_;clear hA hB A B)|(refine hK _ ?_;clear hK K))|((with_reducible refine z25 ?_);intro K hK;(conv=>whnf))|(with_reducible refine z0 ?_)|((first|((with_reducible refine NIf.decY ?s ?_);case s=>with_reducible rfl)|((with_reducible refine NCall.isF 123 ?_);refine NCall.subE [0] (cf) rfl (by decide) rfl rfl ?_))<;>(conv=>whnf))|(with_reducible first|refine z3 ?_|refine z4 ?_|refine z8 ?_)|((with_reducible refine z29 ?_);intro A B hA hB;(conv=>whnf))|(with_reducible first|refine z1 ?_|refine z2 ?_|refine z12 ?_)|((with_reducible refine gR ?_);(refine z31 rfl ?_;intro K hK;(conv=>whnf)))|((with_reducible refine gF ?_);(refine z33 rfl ?_;intro K hK;(conv=>whnf)))))
    all_goals exact ⟨0,0,i,false,Nat.le_refl _,hi,rfl,rfl,MemFits.pre 1 rfl⟩
  | some f =>
    rw [hq] at cf
    dsimp only at cf
    have h1:=hkey f hq
    have hx1:l[i+1]?=some l[i+1]:=List.getElem?_eq_getElem h1
    have ci:=refis29_c F v l hv hn hx1 sign
    have hnx:=hl.next hx1 (s:=sign)
    have hf1:¬ (f:Int) = -1:=by omega
    dsimp only
    refine ncall_of Tryd.func110 rfl (by decide) ?_
    cases hs:Ps.is (l.map Lx.b) (i+1) sign with
    | false =>
      rw [hs] at ci
      (repeat' (first|(with_reducible first|(refine hK _ _ ?_;clear hK K)|(refine hA ?_;clear hA hB A B)|(refine hB ?_;clear hA hB A B)|(refine hK _ ?_;clear hK K))|((with_reducible refine z25 ?_);intro K hK;(conv=>whnf))|(with_reducible refine z0 ?_)|((first|((with_reducible refine NV.i64 ?s ?_);case s=>omega)|((with_reducible refine NIf.yes ?s ?_);case s=>(simp [hf1];done))|((with_reducible refine NIf.no ?s ?_);case s=>(simp [hf1];done))|((with_reducible refine NCall.isF 123 ?_);refine NCall.subE [0] (cf) rfl (by decide) rfl rfl ?_)|((with_reducible refine NCall.isF 66 ?_);refine NCall.subE [0] (ci) rfl (by decide) rfl rfl ?_))<;>(conv=>whnf))|(with_reducible first|refine z3 ?_|refine z4 ?_|refine z6 ?_|refine z8 ?_)|((with_reducible refine z29 ?_);intro A B hA hB;(conv=>whnf))|(with_reducible first|refine z1 ?_|refine z2 ?_|refine z12 ?_)|((with_reducible refine gR ?_);(refine z31 rfl ?_;intro K hK;(conv=>whnf)))|((with_reducible refine gF ?_);(refine z33 rfl ?_;intro K hK;(conv=>whnf)))))
      all_goals exact ⟨0,0,i+1,false,by omega,h1,rfl,rfl,MemFits.pre 1 rfl⟩
    | true =>
      rw [hs] at ci
      have h2:=hnx hs
      have hx2:l[i+2]?=some l[i+2]:=List.getElem?_eq_getElem h2
      obtain ⟨c0,c1,_,_⟩:=hv.get hx2
      have hend:=hl.end_ (i+2) _ hx2
      rw [Ps.tk_b hx2]
      generalize l[i+2]=y at *
      obtain ⟨k,n,t,a⟩:=y
      dsimp only [Lx.b] at *
      rw [show i+2=((i:Int)+2).toNat by omega] at c0 c1
      by_cases hk:k=2
      · have h3:=hend (by omega)
        (repeat' (first|(with_reducible first|(refine hK _ _ ?_;clear hK K)|(refine hB ?_;clear hA hB A B)|(refine hK _ ?_;clear hK K))|((with_reducible refine z25 ?_);intro K hK;(conv=>whnf))|(with_reducible refine z0 ?_)|((first|((with_reducible refine NV.i64 ?s ?_);case s=>omega)|((with_reducible refine NIf.no ?s ?_);case s=>(simp [hf1];done))|with_reducible refine NIf.not_ ?_|((with_reducible refine NIf.decY ?s ?_);case s=>assumption)|(with_reducible first|refine NN.a6 ?_|refine NN.keep ?_)|((with_reducible refine NH.mk ?s ?_);case s=>(and_intros<;>omega))|((with_reducible refine NCall.isF 123 ?_);refine NCall.subE [0] (cf) rfl (by decide) rfl rfl ?_)|((with_reducible refine NCall.isF 66 ?_);refine NCall.subE [0] (ci) rfl (by decide) rfl rfl ?_)|(with_reducible refine NLd.of (by with_reducible assumption) ?_))<;>(conv=>whnf))|((with_reducible refine gNO ?_);(first|(refine z36 rfl (by kernel_rfl) ?_;intro K hK;(conv=>whnf))|refine z38 rfl (by kernel_rfl) ?_|refine z39 rfl rfl (by kernel_rfl) (by intro h;cases h) ?_))|((with_reducible refine gNE ?_);(first|(refine z40 ?_ ?_;(intro K hK;(conv=>whnf)))|exact z42))|((with_reducible refine gX ?_);(first|refine z35 (by kernel_rfl) _ rfl ?_|(with_reducible first|refine z3 ?_|refine z4 ?_|refine z6 ?_|refine z8 ?_)|((with_reducible refine z29 ?_);intro A B hA hB;(conv=>whnf))))|(with_reducible first|refine z1 ?_|refine z2 ?_)|((with_reducible refine gR ?_);(refine z31 rfl ?_;intro K hK;(conv=>whnf)))|((with_reducible refine gF ?_);(refine z33 rfl ?_;intro K hK;(conv=>whnf)))))
        all_goals exact ⟨f,n,i+3,true,by omega,h3,if_pos hk,rfl,MemFits.pre 1 rfl⟩
      · (repeat' (first|(with_reducible first|(refine hK _ _ ?_;clear hK K)|(refine hA ?_;clear hA hB A B)|(refine hB ?_;clear hA hB A B)|(refine hK _ ?_;clear hK K))|((with_reducible refine z25 ?_);intro K hK;(conv=>whnf))|(with_reducible refine z0 ?_)|((first|((with_reducible refine NV.i64 ?s ?_);case s=>omega)|((with_reducible refine NIf.no ?s ?_);case s=>(simp [hf1];done))|with_reducible refine NIf.not_ ?_|((with_reducible refine NIf.decN ?s ?_);case s=>assumption)|(with_reducible first|refine NN.a6 ?_|refine NN.keep ?_)|((with_reducible refine NH.mk ?s ?_);case s=>(and_intros<;>omega))|((with_reducible refine NCall.isF 123 ?_);refine NCall.subE [0] (cf) rfl (by decide) rfl rfl ?_)|((with_reducible refine NCall.isF 66 ?_);refine NCall.subE [0] (ci) rfl (by decide) rfl rfl ?_)|(with_reducible refine NLd.of (by with_reducible assumption) ?_))<;>(conv=>whnf))|(with_reducible first|refine z3 ?_|refine z4 ?_|refine z6 ?_|refine z8 ?_)|((with_reducible refine z29 ?_);intro A B hA hB;(conv=>whnf))|(with_reducible first|refine z1 ?_|refine z2 ?_|refine z12 ?_)|((with_reducible refine gR ?_);(refine z31 rfl ?_;intro K hK;(conv=>whnf)))|((with_reducible refine gF ?_);(refine z33 rfl ?_;intro K hK;(conv=>whnf)))))
        all_goals exact ⟨0,0,i+2,false,by omega,h2,if_neg hk,rfl,MemFits.pre 1 rfl⟩
end
end Go.Proofs.YtaojbkphcnailaaDoor
namespace Go.Proofs.YtaojbkphcnailaaDoor
open Go.Sx
set_option maxRecDepth 20000
set_option linter.unusedSimpArgs false
set_option linter.unusedVariables false
set_option maxHeartbeats 4000000
set_option linter.unusedVariables false
namespace Ps
theorem field_b {l:List Lx.T} (hl:Good l) {i many:Nat} {x:Lx.T} (hx:l[i]?=some x):((if x.k=1 then idx (words.take many) x.s else -1) = -1∧field (l.map Lx.b) i many=none)∨∃ f:Nat,(if x.k=1 then idx (words.take many) x.s else -1)=f∧field (l.map Lx.b) i many=some f∧i+1<l.length:=by
  unfold field idx
  rw [tk_b hx]
  show (_∧(if x.k=1 then (words.take many).findIdx? (fun w=>decide (w=x.s)) else none)=none)∨∃ f:Nat,_∧(if x.k=1 then (words.take many).findIdx? (fun w=>decide (w=x.s)) else none)=some f∧_
  by_cases h:x.k=1
  · rw [if_pos h,if_pos h]
    cases (words.take many).findIdx? (fun w=>decide (w=x.s)) with
    | none=>exact .inl ⟨rfl,rfl⟩
    | some f=>exact .inr ⟨f,rfl,rfl,hl.end_ i x hx (by omega)⟩
  · rw [if_neg h,if_neg h]
    exact .inl ⟨rfl,rfl⟩
theorem assign_none {l:List Lx.T} {i many:Nat} {sign:List UInt8} (h:field (l.map Lx.b) i many=none):assign (l.map Lx.b) many sign i = .bad i:=by
  unfold assign
  rw [h]
theorem assign_some {l:List Lx.T} {i many f:Nat} {sign:List UInt8} (h:field (l.map Lx.b) i many=some f):assign (l.map Lx.b) many sign i=if is (l.map Lx.b) (i+1) sign=true then (if (tk (l.map Lx.b) (i+2)).k=2 then .ok ((f:Int),(tk (l.map Lx.b) (i+2)).n) (i+3) else .bad (i+2)) else .bad (i+1):=by
  unfold assign
  rw [h]
end Ps
theorem part29_c (v:Value) (l:List Lx.T) (hl:Ps.Good l):∀ (n i:Nat),l.length - i≤n→i<l.length→Ps.P26 v l 88 (Ps.part (l.map Lx.b) n i) i
  | 0,i,h0,h1=>by omega
  | n+1,i,hni,hil=>by
    intro F b hv
    refine NCallX.fits (K:=fun r m=>∃ p j G u,Ps.part (l.map Lx.b) (n+1) i = .ok p j∧i≤j∧j<l.length∧F.le G∧Pd.Row G u p.l∧r.den=(AV.agg (Pd.cs p u)).den∧MemFits m [hpB G,Ps.pB b v l.length j]) (Kp:=fun ch m=>∃ j x G k,Ps.part (l.map Lx.b) (n+1) i = .bad j∧l[j]?=some x∧ch=Ps.wrong x.at_∧F.le G∧MemFits m [hpB G,Ps.pB b v l.length k]) ?_ (fun r m' ⟨p,j,G,u,h1,h2,h3,h4,h5,h6,h7⟩=>⟨_,_,h6.symm,h7,p,j,G,u,h1,h2,h3,h4,h5,rfl,rfl⟩) (fun ch m' ⟨j,x,G,k,h1,h2,h3,h4,h5⟩=>⟨_,h5,j,x,G,k,h1,h2,h3,h4,rfl⟩)
    have hn:=hl.few
    have hx:l[i]?=some l[i]:=List.getElem?_eq_getElem hil
    have hih:∀ i',i+1≤i'→i'<l.length→Ps.P26 v l 88 (Ps.part (l.map Lx.b) n i') i':=fun i' h1 h2=>part29_c v l hl n i' (by omega) h2
    have hic:=fun h=>cond26_c v l hl (Ps.part (l.map Lx.b) n) (i+1) h fun i' h1 h2=>group26_c v l hl (Ps.part (l.map Lx.b) n) i' h2 fun i'' h3 h4=>hih i'' (by omega) h4
    have c1:=is29_c F v l hv hn b hx Ps.wTrue
    have c2:=is29_c F v l hv hn b hx Ps.wFalse
    have c3:=is29_c F v l hv hn b hx Ps.wNot
    have c4:=is29_c F v l hv hn b hx Ps.wOpen
    have cf:=field29_c F v l hv hn b (many:=6) (by decide) hx
    have hfb:=Ps.field_b hl (many:=6) hx
    have cfl:=fail29_c F v l hv hn b hx
    rw [← Ps.is_b hx] at c1 c2 c3 c4
    have n1:=fun s=>hl.next hx (s:=s)
    have hspec:Ps.part (l.map Lx.b) (n+1) i=if Ps.is (l.map Lx.b) i Ps.wTrue=true then .ok (.mk 1 0 0 []) (i+1)
      else if Ps.is (l.map Lx.b) i Ps.wFalse=true then .ok (.mk 2 0 0 []) (i+1)
      else if Ps.is (l.map Lx.b) i Ps.wNot=true then match Ps.part (l.map Lx.b) n (i+1) with
        | .ok x j=>.ok (.mk 4 0 0 [x]) j
        | .bad j=>.bad j
      else if Ps.is (l.map Lx.b) i Ps.wOpen=true then Ps.shut (l.map Lx.b) (Ps.cond (l.map Lx.b) (Ps.part (l.map Lx.b) n) (i+1))
      else match Ps.assign (l.map Lx.b) 6 Ps.wEq i with
        | .ok (f,v) j=>.ok (.mk 3 f v []) j
        | .bad j=>.bad j:=by
      rw [Ps.part]
      split
      · rfl
      split
      · rfl
      split
      · cases Ps.part (l.map Lx.b) n (i+1)<;>rfl
      split
      · rfl
      · rcases Ps.assign (l.map Lx.b) 6 Ps.wEq i with ⟨⟨f,v⟩,j⟩ | j<;>rfl
    have m1:=n1 Ps.wTrue
    have m2:=n1 Ps.wFalse
    have m3:=n1 Ps.wNot
    have m4:=n1 Ps.wOpen
    generalize Ps.part (l.map Lx.b) (n+1) i=res at *
    generalize Ps.is (l.map Lx.b) i Ps.wTrue=q1 at *
    generalize Ps.is (l.map Lx.b) i Ps.wFalse=q2 at *
    generalize Ps.is (l.map Lx.b) i Ps.wNot=q3 at *
    generalize Ps.is (l.map Lx.b) i Ps.wOpen=q4 at *
    unfold Ps.pB at c1 c2 c3 c4 cf cfl ⊢
    unfold Ps.wTrue at c1
    unfold Ps.wFalse at c2
    unfold Ps.wNot at c3
    unfold Ps.wOpen at c4
    refine ncallx_of Tryd.func88 rfl (by decide) ?_
    cases q1 with
    | true =>
      rw [if_pos rfl] at c1 hspec
      (repeat' (first|(with_reducible first|(refine hK _ _ ?_;clear hP hK Kp K)|(refine hA ?_;clear hA hB A B)|(refine hK _ ?_;clear hK K))|((with_reducible refine st_opX ?_);intro K Kp hK hP;(conv=>whnf))|(with_reducible refine st_nilX ?_)|((first|((with_reducible refine NIf.yes ?s ?_);case s=>rfl)|((with_reducible refine NH.mk ?s ?_);case s=>(and_intros<;>first|with_reducible rfl|((with_reducible refine gOnes ?_);rfl)|((with_reducible refine gLen ?_);rfl)))|((with_reducible refine gCX ?_);(refine NCallX.of ?_;((with_reducible refine NCall.isF 84 ?_);refine NCall.subE [0,1] (c1) rfl (by decide) rfl rfl ?_))))<;>(conv=>whnf))|(with_reducible first|refine st_seqX ?_|refine st_regionX ?_|refine st_blockX ?_|refine st_retX ?_)|((with_reducible refine st_condX ?_);intro A B hA hB;(conv=>whnf))|(with_reducible first|refine z13 ?_|refine st_thenX ?_|refine st_thenX_ret ?_)|((with_reducible refine gRX ?_);(refine st_retX_ret rfl ?_;intro K hK;(conv=>whnf)))|((with_reducible refine gFX ?_);(refine st_funcX rfl ?_;intro K hK;(conv=>whnf)))|((intro _;skip)<;>(conv=>whnf))))
      all_goals exact ⟨_,i+1,F,.slice none 0 0,hspec,by omega,m1 rfl,F.le_refl,RowF.nil,rfl,MemFits.pre 2 rfl⟩
    | false =>
    rw [if_neg (by decide)] at c1 hspec
    cases q2 with
    | true =>
      rw [if_pos rfl] at c2 hspec
      (repeat' (first|(with_reducible first|(refine hK _ _ ?_;clear hP hK Kp K)|(refine hA ?_;clear hA hB A B)|(refine hB ?_;clear hA hB A B)|(refine hK _ ?_;clear hK K))|((with_reducible refine st_opX ?_);intro K Kp hK hP;(conv=>whnf))|(with_reducible refine st_nilX ?_)|((first|((with_reducible refine NIf.yes ?s ?_);case s=>rfl)|((with_reducible refine NIf.no ?s ?_);case s=>rfl)|((with_reducible refine NH.mk ?s ?_);case s=>(and_intros<;>first|with_reducible rfl|((with_reducible refine gOnes ?_);rfl)|((with_reducible refine gLen ?_);rfl)))|((with_reducible refine gCX ?_);(refine NCallX.of ?_;(first|((with_reducible refine NCall.isF 84 ?_);refine NCall.subE [0,1] (c1) rfl (by decide) rfl rfl ?_)|((with_reducible refine NCall.isF 84 ?_);refine NCall.subE [0,1] (c2) rfl (by decide) rfl rfl ?_)))))<;>(conv=>whnf))|(with_reducible first|refine st_seqX ?_|refine st_regionX ?_|refine st_blockX ?_|refine st_retX ?_)|((with_reducible refine st_condX ?_);intro A B hA hB;(conv=>whnf))|(with_reducible first|refine z13 ?_|refine st_thenX ?_|refine st_thenX_ret ?_)|((with_reducible refine gRX ?_);(refine st_retX_ret rfl ?_;intro K hK;(conv=>whnf)))|((with_reducible refine gFX ?_);(refine st_funcX rfl ?_;intro K hK;(conv=>whnf)))|((intro _;skip)<;>(conv=>whnf))))
      all_goals exact ⟨_,i+1,F,.slice none 0 0,hspec,by omega,m2 rfl,F.le_refl,RowF.nil,rfl,MemFits.pre 2 rfl⟩
    | false =>
    rw [if_neg (by decide)] at c2 hspec
    cases q3 with
    | true =>
      rw [if_pos rfl] at c3 hspec
      have cp:=hih (i+1) (Nat.le_refl _) (m3 rfl) F b hv
      generalize Ps.part (l.map Lx.b) n (i+1)=qq at *
      unfold Ps.pB at cp
      (repeat' (first|(with_reducible first|(refine hK _ _ ?_;clear hP hK Kp K)|(refine hP _ _ ?_;clear hP hK Kp K))|(with_reducible first|(refine hA ?_;clear hA hB A B)|(refine hB ?_;clear hA hB A B)|(refine hK _ ?_;clear hK K))|((with_reducible refine gOX ?_);(first|((with_reducible refine st_opX ?_);intro K Kp hK hP;(conv=>whnf))|(with_reducible refine st_nilX ?_)))|((first|((with_reducible refine gI ?_);(first|((with_reducible refine NIf.yes ?s ?_);case s=>rfl)|((with_reducible refine NIf.no ?s ?_);case s=>rfl)))|((with_reducible refine gH ?_);((with_reducible refine NH.mk ?s ?_);case s=>(and_intros<;>first|with_reducible rfl|((with_reducible refine gOnes ?_);rfl)|((with_reducible refine gLen ?_);rfl)|omega)))|((with_reducible refine gCX ?_);(first|((with_reducible refine NCallX.isF 88 ?_);refine NCallX.subw [0,1] _ _ (cp) rfl (by decide) rfl ?_ ?_;((rintro _ _ ⟨p,j,G,u,h1,h2,h3,h4,h5,rfl,rfl⟩)<;>refine ⟨Nat.le_of_ble_eq_true rfl,_,rfl,?_⟩);rotate_right;((rintro _ _ ⟨j,x,G,k,h1,h2,rfl,h4,rfl⟩)<;>refine ⟨Nat.le_of_ble_eq_true rfl,?_⟩))|(refine NCallX.of ?_;(first|((with_reducible refine NCall.isF 84 ?_);refine NCall.subE [0,1] (c1) rfl (by decide) rfl rfl ?_)|((with_reducible refine NCall.isF 84 ?_);refine NCall.subE [0,1] (c2) rfl (by decide) rfl rfl ?_)|((with_reducible refine NCall.isF 84 ?_);refine NCall.subE [0,1] (c3) rfl (by decide) rfl rfl ?_))))))<;>(conv=>whnf))|((with_reducible refine gXX ?_);(first|(with_reducible first|refine st_seqX ?_|refine st_regionX ?_|refine st_blockX ?_|refine st_retX ?_)|((with_reducible refine st_condX ?_);intro A B hA hB;(conv=>whnf))))|(with_reducible first|refine z13 ?_|refine st_thenX ?_|refine st_thenX_ret ?_|refine st_thenX_panic ?_|refine st_block_panic ?_)|((with_reducible refine gRX ?_);(first|((refine st_retX_ret rfl ?_);intro K hK;(conv=>whnf))|(with_reducible refine st_retX_panic ?_)))|((with_reducible refine gFX ?_);((refine st_funcX rfl ?_);intro K hK;(conv=>whnf)))|((intro _;skip)<;>(conv=>whnf))))
      · refine ⟨j,x,G,k,?_,h2,rfl,h4,MemFits.pre 2 rfl⟩
        rw [hspec,h1]
      · rename_i b1 b2
        have hok:SlOk (.slice (some ⟨b2,0,none⟩) 1 1) [(p,u)].length:=⟨_,_,rfl,Nat.le_refl _,fun h=>by cases h⟩
        have hcs:denL [.int .i64 p.k,.int .i64 p.f,.int .i64 p.v,.hs u p.l.length]=[(p,u)].flatMap Pd.psV:=rfl
        have hrow:=rowF_new (F:=G) (sz:=4) (enc:=Pd.psV) (l:=[(p,u)]) hok hcs (fun x _=>rfl)
        refine ⟨.mk 4 0 0 [p],j,addF G ⟨b2,0,none⟩ _,.slice (some ⟨b2,0,none⟩) 1 1,by rw [hspec,h1],by omega,h3,h4.trans addF.old,Pd.row_of hrow fun y hy=>?_,rfl,(MemFits.pick (m':=[hpB G,_,Ps.pB b v l.length j]) [0,3,1] (by decide) rfl).trans (MemFits.freeze (m:=[Ps.pB b v l.length j]))⟩
        rw [List.mem_singleton.1 hy]
        exact Pd.Row.mono addF.old h5
    | false =>
    rw [if_neg (by decide)] at c3 hspec
    have cm:=fun G (h:F.le G) j (hj:j<l.length) s=>must29_c G v l (Ps.Toks.mono h hv) hn b (List.getElem?_eq_getElem hj) s
    have isj:=fun j (hj:j<l.length) s=>Ps.is_b (List.getElem?_eq_getElem hj) s
    have nxj:=fun j (hj:j<l.length) s=>hl.next (List.getElem?_eq_getElem hj) (s:=s)
    unfold Ps.pB at cm
    cases q4 with
    | true =>
      rw [if_pos rfl] at c4 hspec
      have cp:=hic (m4 rfl) F b hv
      generalize Ps.cond (l.map Lx.b) (Ps.part (l.map Lx.b) n) (i+1)=qq at *
      unfold Ps.pB at cp
      (repeat' (first|(with_reducible first|(refine hK _ _ ?_;clear hP hK Kp K)|(refine hP _ _ ?_;clear hP hK Kp K))|(with_reducible first|(refine hA ?_;clear hA hB A B)|(refine hB ?_;clear hA hB A B)|(refine hK _ ?_;clear hK K))|((with_reducible refine gOX ?_);(first|((with_reducible refine st_opX ?_);intro K Kp hK hP;(conv=>whnf))|(with_reducible refine st_nilX ?_)))|((first|((with_reducible refine gI ?_);(first|((with_reducible refine NIf.yes ?s ?_);case s=>rfl)|((with_reducible refine NIf.no ?s ?_);case s=>rfl)))|((with_reducible refine gH ?_);((with_reducible refine NH.mk ?s ?_);case s=>(and_intros<;>first|with_reducible rfl|((with_reducible refine gOnes ?_);rfl)|((with_reducible refine gLen ?_);rfl))))|((with_reducible refine gCX ?_);(first|((with_reducible refine NCallX.isF 32 ?_);refine NCallX.subw [0,1] _ _ (cp) rfl (by decide) rfl ?_ ?_;((rintro _ _ ⟨p,j,G,u,h1,h2,h3,h4,h5,rfl,rfl⟩)<;>refine ⟨Nat.le_of_ble_eq_true rfl,_,rfl,?_⟩);rotate_right;((rintro _ _ ⟨j,x,G,k,h1,h2,rfl,h4,rfl⟩)<;>refine ⟨Nat.le_of_ble_eq_true rfl,?_⟩))|((with_reducible refine NCallX.isF 106 ?_);refine NCallX.subw [0,1] _ _ (cm G h4 j h3 [41]) rfl (by decide) rfl ?_ ?_;((rintro _ _ ⟨k1,rfl,rfl⟩)<;>refine ⟨Nat.le_of_ble_eq_true rfl,_,rfl,?_⟩);rotate_right;((rintro _ _ ⟨k1,rfl,rfl⟩)<;>refine ⟨Nat.le_of_ble_eq_true rfl,?_⟩))|(refine NCallX.of ?_;(first|((with_reducible refine NCall.isF 84 ?_);refine NCall.subE [0,1] (c1) rfl (by decide) rfl rfl ?_)|((with_reducible refine NCall.isF 84 ?_);refine NCall.subE [0,1] (c2) rfl (by decide) rfl rfl ?_)|((with_reducible refine NCall.isF 84 ?_);refine NCall.subE [0,1] (c3) rfl (by decide) rfl rfl ?_)|((with_reducible refine NCall.isF 84 ?_);refine NCall.subE [0,1] (c4) rfl (by decide) rfl rfl ?_))))))<;>(conv=>whnf))|((with_reducible refine gXX ?_);(first|(with_reducible first|refine st_seqX ?_|refine st_regionX ?_|refine st_blockX ?_|refine st_retX ?_)|((with_reducible refine st_condX ?_);intro A B hA hB;(conv=>whnf))))|(with_reducible first|refine z13 ?_|refine st_thenX ?_|refine st_thenX_ret ?_|refine st_thenX_panic ?_|refine st_block_panic ?_)|((with_reducible refine gRX ?_);(first|((refine st_retX_ret rfl ?_);intro K hK;(conv=>whnf))|(with_reducible refine st_retX_panic ?_)))|((with_reducible refine gFX ?_);((refine st_funcX rfl ?_);intro K hK;(conv=>whnf)))|((intro _;skip)<;>(conv=>whnf))))
      · refine ⟨j,x,G,k,?_,h2,rfl,h4,MemFits.pre 2 rfl⟩
        rw [hspec,h1]
        rfl
      · refine ⟨j,_,G,j,?_,List.getElem?_eq_getElem h3,rfl,h4,MemFits.pre 2 rfl⟩
        rw [← isj j h3] at k1
        rw [hspec,h1]
        exact if_neg (by rw [show Ps.is (l.map Lx.b) j Ps.wShut=false from k1];decide)
      · rw [← isj j h3] at k1
        refine ⟨p,j+1,G,u,?_,by omega,nxj j h3 _ k1,h4,h5,rfl,MemFits.pre 2 rfl⟩
        rw [hspec,h1]
        exact if_pos k1
    | false =>
      rw [if_neg (by decide)] at c4 hspec
      have cnum:=fun j (hj:j<l.length)=>number29_c F v l hv hn b (List.getElem?_eq_getElem hj)
      have tkj:=fun j (hj:j<l.length)=>Ps.tk_b (List.getElem?_eq_getElem hj)
      unfold Ps.pB at cnum
      rcases hfb with ⟨hq,hf⟩ | ⟨f,hq,hf,h1⟩
      · rw [hq] at cf
        rw [Ps.assign_none hf] at hspec
        (repeat' (first|(with_reducible first|(refine hK _ _ ?_;clear hP hK Kp K)|(refine hP _ _ ?_;clear hP hK Kp K))|(with_reducible first|(refine hA ?_;clear hA hB A B)|(refine hB ?_;clear hA hB A B)|(refine hK _ ?_;clear hK K))|((with_reducible refine gOX ?_);(first|((with_reducible refine st_opX ?_);intro K Kp hK hP;(conv=>whnf))|(with_reducible refine st_nilX ?_)))|((first|((with_reducible refine gI ?_);(first|((with_reducible refine NIf.decY ?s ?_);case s=>omega)|((with_reducible refine NIf.no ?s ?_);case s=>rfl)))|((with_reducible refine gCX ?_);(first|((with_reducible refine NCallX.isF 58 ?_);refine NCallX.subw [0,1] _ _ (cfl) rfl (by decide) rfl ?_ ?_;((rintro _ _ ⟨⟩)<;>refine ⟨Nat.le_of_ble_eq_true rfl,_,rfl,?_⟩);rotate_right;((rintro _ _ ⟨rfl,rfl⟩)<;>refine ⟨Nat.le_of_ble_eq_true rfl,?_⟩))|(refine NCallX.of ?_;(first|((with_reducible refine NCall.isF 84 ?_);refine NCall.subE [0,1] (c1) rfl (by decide) rfl rfl ?_)|((with_reducible refine NCall.isF 84 ?_);refine NCall.subE [0,1] (c2) rfl (by decide) rfl rfl ?_)|((with_reducible refine NCall.isF 84 ?_);refine NCall.subE [0,1] (c3) rfl (by decide) rfl rfl ?_)|((with_reducible refine NCall.isF 84 ?_);refine NCall.subE [0,1] (c4) rfl (by decide) rfl rfl ?_)|((with_reducible refine NCall.isF 107 ?_);refine NCall.subE [0,1] (cf) rfl (by decide) rfl rfl ?_))))))<;>(conv=>whnf))|((with_reducible refine gXX ?_);(first|(with_reducible first|refine st_seqX ?_|refine st_regionX ?_|refine st_blockX ?_|refine st_skipX ?_)|((with_reducible refine st_condX ?_);intro A B hA hB;(conv=>whnf))))|(with_reducible first|refine z9 ?_|refine st_thenX ?_|refine st_thenX_panic ?_)|((with_reducible refine gRX ?_);((with_reducible refine st_retX_panic ?_)))|((with_reducible refine gFX ?_);((refine st_funcX rfl ?_);intro K hK;(conv=>whnf)))|((intro _;skip)<;>(conv=>whnf))))
        all_goals exact ⟨i,_,F,i,hspec,hx,rfl,F.le_refl,MemFits.pre 2 rfl⟩
      · rw [hq,if_pos (by omega)] at cf
        rw [Ps.assign_some hf] at hspec
        have hf6:f≤6:=by
          have:=(List.findIdx?_eq_some_iff_getElem.1 (show (Ps.words.take 6).findIdx? _=some f from by
            unfold Ps.field at hf
            split at hf
            · exact hf
            · cases hf)).1
          rw [List.length_take] at this
          omega
        have c5:=cm F F.le_refl (i+1) h1 [61]
        have c6:=fun h=>cnum (i+2) h
        (repeat' (first|(with_reducible first|(refine hK _ _ ?_;clear hP hK Kp K)|(refine hP _ _ ?_;clear hP hK Kp K))|(with_reducible first|(refine hB ?_;clear hA hB A B)|(refine hK _ ?_;clear hK K))|((with_reducible refine gOX ?_);(first|((with_reducible refine st_opX ?_);intro K Kp hK hP;(conv=>whnf))|(with_reducible refine st_nilX ?_)))|((first|((with_reducible refine gI ?_);(first|((with_reducible refine NIf.decN ?s ?_);case s=>omega)|((with_reducible refine NIf.no ?s ?_);case s=>rfl)))|((with_reducible refine gH ?_);((with_reducible refine NH.mk ?s ?_);case s=>(and_intros<;>first|with_reducible rfl|((with_reducible refine gOnes ?_);rfl)|((with_reducible refine gLen ?_);rfl))))|((with_reducible refine gCX ?_);(first|((with_reducible refine NCallX.isF 106 ?_);refine NCallX.subw [0,1] _ _ (c5) rfl (by decide) rfl ?_ ?_;((rintro _ _ ⟨k1,rfl,rfl⟩)<;>refine ⟨Nat.le_of_ble_eq_true rfl,_,rfl,?_⟩);rotate_right;((rintro _ _ ⟨k1,rfl,rfl⟩)<;>refine ⟨Nat.le_of_ble_eq_true rfl,?_⟩))|((with_reducible refine NCallX.isF 108 ?_);refine NCallX.subw [0,1] _ _ (c6 (nxj (i+1) h1 [61] ((isj (i+1) h1 [61]).trans k1))) rfl (by decide) rfl ?_ ?_;((rintro _ _ ⟨k2,rfl,rfl⟩)<;>refine ⟨Nat.le_of_ble_eq_true rfl,_,rfl,?_⟩);rotate_right;((rintro _ _ ⟨k2,rfl,rfl⟩)<;>refine ⟨Nat.le_of_ble_eq_true rfl,?_⟩))|(refine NCallX.of ?_;(first|((with_reducible refine NCall.isF 84 ?_);refine NCall.subE [0,1] (c1) rfl (by decide) rfl rfl ?_)|((with_reducible refine NCall.isF 84 ?_);refine NCall.subE [0,1] (c2) rfl (by decide) rfl rfl ?_)|((with_reducible refine NCall.isF 84 ?_);refine NCall.subE [0,1] (c3) rfl (by decide) rfl rfl ?_)|((with_reducible refine NCall.isF 84 ?_);refine NCall.subE [0,1] (c4) rfl (by decide) rfl rfl ?_)|((with_reducible refine NCall.isF 107 ?_);refine NCall.subE [0,1] (cf) rfl (by decide) rfl rfl ?_))))))<;>(conv=>whnf))|((with_reducible refine gXX ?_);(first|(with_reducible first|refine st_seqX ?_|refine st_regionX ?_|refine st_blockX ?_|refine st_skipX ?_|refine st_retX ?_)|((with_reducible refine st_condX ?_);intro A B hA hB;(conv=>whnf))))|(with_reducible first|refine z9 ?_|refine st_thenX ?_|refine st_thenX_panic ?_)|((with_reducible refine gRX ?_);(first|((refine st_retX_ret rfl ?_);intro K hK;(conv=>whnf))|(with_reducible refine st_retX_panic ?_)))|((with_reducible refine gFX ?_);((refine st_funcX rfl ?_);intro K hK;(conv=>whnf)))|((intro _;skip)<;>(conv=>whnf))))
        all_goals first | (exfalso;omega) | skip
        · refine ⟨i+1,_,F,i+1,?_,List.getElem?_eq_getElem h1,rfl,F.le_refl,MemFits.pre 2 rfl⟩
          rw [← isj (i+1) h1] at k1
          rw [hspec,if_neg (by rw [show Ps.is (l.map Lx.b) (i+1) Ps.wEq=false from k1];decide)]
        · have h2:=nxj (i+1) h1 [61] ((isj (i+1) h1 [61]).trans k1)
          refine ⟨i+2,_,F,i+2,?_,List.getElem?_eq_getElem h2,rfl,F.le_refl,MemFits.pre 2 rfl⟩
          rw [← isj (i+1) h1] at k1
          rw [hspec,if_pos (show Ps.is (l.map Lx.b) (i+1) Ps.wEq=true from k1),tkj (i+2) h2,if_neg (show ¬(Lx.b (l[i+2]'h2)).k=2 from k2)]
        · have h2:=nxj (i+1) h1 [61] ((isj (i+1) h1 [61]).trans k1)
          refine ⟨.mk 3 f (l[i+2]'h2).n [],i+3,F,.slice none 0 0,?_,by omega,hl.end_ (i+2) _ (List.getElem?_eq_getElem h2) (by rw [k2];decide),F.le_refl,RowF.nil,rfl,MemFits.pre 2 rfl⟩
          rw [← isj (i+1) h1] at k1
          rw [hspec,if_pos (show Ps.is (l.map Lx.b) (i+1) Ps.wEq=true from k1),tkj (i+2) h2,if_pos (show (Lx.b (l[i+2]'h2)).k=2 from k2)]
          rfl
end Go.Proofs.YtaojbkphcnailaaDoor
