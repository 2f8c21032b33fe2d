import Derived.Test.YtaojbkphcnailaaDoorJ2
import Derived.Test.YtaojbkphcnailaaDoorJ7
import Derived.Test.YtaojbkphcnailaaDoorProg
namespace Go.Proofs.YtaojbkphcnailaaDoor
open Go.Sx
set_option maxRecDepth 20000
set_option linter.unusedSimpArgs false
set_option linter.unusedVariables false
set_option maxHeartbeats 2000000
set_option linter.unusedVariables false
namespace Pd
inductive R (F:Heap):T→List Value→Prop where
  | mk (k f v:Int) (l:List T) (A:Option Addr) (cap:Nat) (g:Nat→List Value) (hs:SlOk (.slice A l.length cap) l.length) (h1:∀ (i:Nat) (x:T),l[i]?=some x→R F x (g i))
      (h2:∀ i,i<l.length→(g i).length=4∧CellsF F (addrOf (.slice A l.length cap)) (i*4) (g i)):R F (.mk k f v l) [.int .i64 k,.int .i64 f,.int .i64 v,.slice A l.length cap]
abbrev Row (F:Heap) (v:Value) (l:List T):Prop:=RowF F 4 (R F) v l
def cs (p:T) (u:Value):List AV:=[.int .i64 p.k,.int .i64 p.f,.int .i64 p.v,.hs u p.l.length]
theorem R.inv {F:Heap} {p:T} {us:List Value} (h:R F p us):∃ A cap,Row F (.slice A p.l.length cap) p.l∧us=[.int .i64 p.k,.int .i64 p.f,.int .i64 p.v,.slice A p.l.length cap]:=by
  cases h with
  | mk k f v l A cap g hs h1 h2=>exact ⟨A,cap,⟨hs,fun i x hx=>⟨g i,h1 i x hx,(h2 i (List.getElem?_eq_some_iff.1 hx).1).1,(h2 i (List.getElem?_eq_some_iff.1 hx).1).2⟩⟩,rfl⟩
theorem R.of {F:Heap} {p:T} {A:Option Addr} {cap:Nat} (h:Row F (.slice A p.l.length cap) p.l):R F p [.int .i64 p.k,.int .i64 p.f,.int .i64 p.v,.slice A p.l.length cap]:=by
  obtain ⟨k,f,v,l⟩:=p
  have hg:∀ i:Nat,∃ g:List Value,∀ x,l[i]?=some x→R F x g∧g.length=4∧CellsF F (addrOf (.slice A l.length cap)) (i*4) g:=fun i=>by
    cases hx:l[i]? with
    | none=>exact ⟨[],fun x e=>by cases e⟩
    | some x =>
      obtain ⟨g,h1,h2,h3⟩:=h.at_ i x hx
      exact ⟨g,fun y e=>by cases e;exact ⟨h1,h2,h3⟩⟩
  refine R.mk k f v l A cap (fun i=>Classical.choose (hg i)) h.ok (fun i x hx=>(Classical.choose_spec (hg i) x hx).1) fun i hi=>?_
  have:=Classical.choose_spec (hg i) l[i] (List.getElem?_eq_getElem hi)
  exact ⟨this.2.1,this.2.2⟩
theorem R.mono {F G:Heap} (h:F.le G) {p:T} {us:List Value} (hp:R F p us):R G p us:=by
  induction hp with
  | mk k f v l A cap g hs _ h2 ih=>exact R.mk k f v l A cap g hs ih fun i hi=>⟨(h2 i hi).1,(h2 i hi).2.mono h⟩
theorem Row.mono {F G:Heap} (h:F.le G) {v:Value} {l:List T} (hv:Row F v l):Row G v l:=RowF.mono h (fun _ _ hp=>R.mono h hp) hv
theorem Row.get {F:Heap} {v:Value} {l:List T} (h:Row F v l) {i:Nat} {x:T} (hx:l[i]?=some x):∃ A cap,Row F (.slice A x.l.length cap) x.l ∧
    (F.c ((addrOf v).add (i*4)) (.int .i64 x.k)∧F.c ((addrOf v).add (i*4+1)) (.int .i64 x.f)∧F.c ((addrOf v).add (i*4+2)) (.int .i64 x.v)∧F.c ((addrOf v).add (i*4+3)) (.slice A x.l.length cap)):=by
  obtain ⟨us,h1,_,h2⟩:=h.at_ i x hx
  obtain ⟨A,cap,h3,rfl⟩:=h1.inv
  simp only [CellsF,Nat.add_assoc,Nat.reduceAdd] at h2
  obtain ⟨c0,c1,c2,c3,_⟩:=h2
  exact ⟨A,cap,h3,c0,c1,c2,c3⟩
mutual
def in64:T→Prop
  | .mk k f v l=>((-9223372036854775808≤k∧k≤9223372036854775807)∧(-9223372036854775808≤f∧f≤9223372036854775807)∧(-9223372036854775808≤v∧v≤9223372036854775807))∧in64L l
def in64L:List T→Prop
  | []=>True
  | p::l=>in64 p∧in64L l
end
theorem in64L_iff (l:List T):in64L l↔∀ p∈l,in64 p:=by
  induction l with
  | nil=>simp [in64L]
  | cons p l ih=>simp only [in64L,ih,List.mem_cons,forall_eq_or_imp]
end Pd
section
variable (F:Heap)
end
end Go.Proofs.YtaojbkphcnailaaDoor
namespace Go.Proofs.YtaojbkphcnailaaDoor
open Go.Sx
set_option maxRecDepth 20000
set_option linter.unusedSimpArgs false
set_option linter.unusedVariables false
set_option maxHeartbeats 2000000
set_option linter.unusedVariables false
theorem pd_cs (k f v:Int) (l:List Pd.T) (u:Value):Pd.cs (.mk k f v l) u=[.int .i64 k,.int .i64 f,.int .i64 v,.hs u l.length]:=rfl
section
variable (F:Heap)
theorem refsize26_c:∀ (n:Nat) (p:Pd.T) (u:Value),Pd.size p≤n→Pd.size p≤4611686018427387904→Pd.Row F u p.l →
    NCall Tryd.prog 45 [.agg (Pd.cs p u)] [hpB F] fun r m=>r = .int .i64 (Pd.size p:Nat)∧m=[hpB F]
  | 0,p,u,hn,_,_=>absurd (Pd.size_pos p) (by omega)
  | n+1,⟨k,f,v,l⟩,u,hn,hs,hu=>by
    refine NCall.fits (K:=fun r m=>r = .int .i64 (Pd.size (.mk k f v l):Nat)∧MemFits m [hpB F]) ?_ fun r m' h=>⟨r,_,rfl,h.2,h.1,rfl⟩
    have hu:Pd.Row F u l:=hu
    have hok:=hu.ok
    have e:Pd.size (.mk k f v l)=1+Pd.sizeL l:=by rw [Pd.size]
    have hll:=Pd.length_le l
    have ih:∀ x∈l,∀ w,Pd.Row F w x.l→_:=fun x hx w hw=>refsize26_c n x w (by have:=Pd.size_lt (k:=k) (f:=f) (v:=v) hx;omega) (by have:=Pd.size_lt (k:=k) (f:=f) (v:=v) hx;omega) hw
    refine ncall_of Tryd.func45 rfl (by decide) ?_
    rw [pd_cs]
    (repeat' (first|(with_reducible first|(refine hK _ _ ?_;clear hK K)|(refine hK _ ?_;clear hK K))|((with_reducible refine z25 ?_);intro K hK;(conv=>whnf))|(with_reducible first|refine z0 ?_|refine z3 ?_|refine z4 ?_|refine z5 ?_|refine z1 ?_|refine z2 ?_)|((with_reducible refine gF ?_);(refine z33 rfl ?_;intro K hK;(conv=>whnf)))|((intro _;skip)<;>(conv=>whnf))))
    refine st_auto (α:=Nat) (fun i=>i≤l.length) (fun i=>[.keep,.keep,.keep,.set (.int .i64 (1+Pd.sizeL (l.take i):Nat)),.set (.int .i64 i),.drop,.drop,.drop,.drop,.drop,.drop,.drop,.drop,.drop,.drop,.drop,.drop,.drop,.drop,.drop,.keep]) (fun _=>[]) (fun i=>l.length - i) 0 (Nat.zero_le _) ?_ (MemFits.eq rfl) ?_
    · repeat (first|exact FitsSl.nil|refine FitsSl.any ?_|refine FitsSl.cons (Fit1.int (by  simp [Pd.sizeL])) ?_|refine FitsSl.cons (Fit1.same (by intro h;cases h) (by with_reducible rfl)) ?_)
    (intro i hi;intro K hK;(conv=>whnf);refine hK _ _ ?_;clear hK K)
    have hle:=Pd.sizeL_le (l:=l) (k:=i)
    by_cases hlt:i<l.length
    · have hx:l[i]?=some l[i]:=List.getElem?_eq_getElem hlt
      obtain ⟨A,cap,hA,c0,c1,c2,c3⟩:=hu.get hx
      have hmem:=List.mem_of_getElem? hx
      have hnx:=Pd.sizeL_take hlt
      have hle2:=Pd.sizeL_le (l:=l) (k:=i+1)
      have c:=ih _ hmem _ hA
      simp only [Pd.cs] at c
      generalize l[i]=x at *
      generalize Pd.size x=sx at *
      generalize Pd.sizeL (l.take i)=si at *
      (repeat' (first|(with_reducible first|(refine hK _ _ ?_;clear hK K)|(refine hA ?_;clear hA hB A B))|((with_reducible refine z25 ?_);intro K hK;(conv=>whnf))|(with_reducible refine z0 ?_)|((first|((with_reducible refine NV.i64 ?s ?_);case s=>omega)|((with_reducible refine NIf.decY ?s ?_);case s=>omega)|(with_reducible first|refine NN.cast ?_|refine NN.a5 ?_|refine NN.keep ?_)|((with_reducible refine NH.mk ?s ?_);case s=>(and_intros<;>first|with_reducible rfl|omega))|((with_reducible refine NCall.isF 45 ?_);refine NCall.subE [0] (c) rfl (by decide) rfl rfl ?_)|(with_reducible refine NLd.of (by with_reducible assumption) ?_))<;>(conv=>whnf))|(with_reducible first|refine z3 ?_|refine z4 ?_|refine z5 ?_|refine z6 ?_)|((with_reducible refine z29 ?_);intro A B hA hB;(conv=>whnf))|(with_reducible first|refine z1 ?_|refine z2 ?_|refine z9 ?_)))
      refine st_round (i+1) hlt (by omega) ?_ (MemFits.eq rfl)
      repeat (first|exact FitsSl.nil|refine FitsSl.any ?_|refine FitsSl.cons (Fit1.int (by  omega)) ?_|refine FitsSl.cons (Fit1.same (by intro h;cases h) (by with_reducible rfl)) ?_)
    · have hkl:i=l.length:=by omega
      subst hkl
      rw [List.take_length] at hle ⊢
      (repeat' (first|(with_reducible first|(refine hK _ _ ?_;clear hK K)|(refine hB ?_;clear hA hB A B)|(refine hK _ ?_;clear hK K))|((with_reducible refine z25 ?_);intro K hK;(conv=>whnf))|(with_reducible refine z0 ?_)|((first|((with_reducible refine NIf.decN ?s ?_);case s=>omega)|(with_reducible refine NN.a5 ?_)|((with_reducible refine NH.mk ?s ?_);case s=>(and_intros<;>first|with_reducible rfl|omega)))<;>(conv=>whnf))|(with_reducible first|refine z3 ?_|refine z4 ?_|refine z7 ?_|refine z8 ?_)|((with_reducible refine z29 ?_);intro A B hA hB;(conv=>whnf))|(with_reducible first|refine z1 ?_|refine z2 ?_|refine z10 ?_|refine z11 ?_|refine z19 ?_)|((with_reducible refine gR ?_);(refine z31 rfl ?_;intro K hK;(conv=>whnf)))))
      all_goals exact ⟨by rw [e],MemFits.pre 1 rfl⟩
theorem refdeep26_c:∀ (n:Nat) (p:Pd.T) (u:Value),Pd.size p≤n→Pd.size p≤4611686018427387904→Pd.Row F u p.l →
    NCall Tryd.prog 46 [.agg (Pd.cs p u)] [hpB F] fun r m=>r = .int .i64 (Pd.deep p:Nat)∧m=[hpB F]
  | 0,p,u,hn,_,_=>absurd (Pd.size_pos p) (by omega)
  | n+1,⟨k,f,v,l⟩,u,hn,hs,hu=>by
    refine NCall.fits (K:=fun r m=>r = .int .i64 (Pd.deep (.mk k f v l):Nat)∧MemFits m [hpB F]) ?_ fun r m' h=>⟨r,_,rfl,h.2,h.1,rfl⟩
    have hu:Pd.Row F u l:=hu
    have hok:=hu.ok
    have e:Pd.deep (.mk k f v l)=1+Pd.deepL l:=by rw [Pd.deep]
    have e2:Pd.size (.mk k f v l)=1+Pd.sizeL l:=by rw [Pd.size]
    have hll:=Pd.length_le l
    have ih:∀ x∈l,∀ w,Pd.Row F w x.l→_:=fun x hx w hw=>refdeep26_c n x w (by have:=Pd.size_lt (k:=k) (f:=f) (v:=v) hx;omega) (by have:=Pd.size_lt (k:=k) (f:=f) (v:=v) hx;omega) hw
    refine ncall_of Tryd.func46 rfl (by decide) ?_
    rw [pd_cs]
    (repeat' (first|(with_reducible first|(refine hK _ _ ?_;clear hK K)|(refine hK _ ?_;clear hK K))|((with_reducible refine z25 ?_);intro K hK;(conv=>whnf))|(with_reducible first|refine z0 ?_|refine z3 ?_|refine z4 ?_|refine z5 ?_|refine z1 ?_|refine z2 ?_)|((with_reducible refine gF ?_);(refine z33 rfl ?_;intro K hK;(conv=>whnf)))|((intro _;skip)<;>(conv=>whnf))))
    refine st_auto (α:=Nat) (fun i=>i≤l.length) (fun i=>[.keep,.keep,.keep,.set (.int .i64 (1+Pd.deepL (l.take i):Nat)),.set (.int .i64 i),.drop,.drop,.drop,.drop,.drop,.drop,.drop,.drop,.drop,.drop,.drop,.drop,.drop,.drop,.drop,.drop,.drop,.drop,.drop,.drop,.drop,.drop,.drop,.keep]) (fun _=>[]) (fun i=>l.length - i) 0 (Nat.zero_le _) ?_ (MemFits.eq rfl) ?_
    · repeat (first|exact FitsSl.nil|refine FitsSl.any ?_|refine FitsSl.cons (Fit1.int (by  simp [Pd.deepL])) ?_|refine FitsSl.cons (Fit1.same (by intro h;cases h) (by with_reducible rfl)) ?_)
    (intro i hi;intro K hK;(conv=>whnf);refine hK _ _ ?_;clear hK K)
    have hle:=Nat.le_trans (Pd.deepL_size (l.take i)) (Pd.sizeL_le (l:=l) (k:=i))
    by_cases hlt:i<l.length
    · have hx:l[i]?=some l[i]:=List.getElem?_eq_getElem hlt
      obtain ⟨A,cap,hA,c0,c1,c2,c3⟩:=hu.get hx
      have hmem:=List.mem_of_getElem? hx
      have hnx:=Pd.deepL_take hlt
      have hle2:=Nat.le_trans (Pd.deepL_size (l.take (i+1))) (Pd.sizeL_le (l:=l) (k:=i+1))
      have c:=ih _ hmem _ hA
      simp only [Pd.cs] at c
      generalize l[i]=x at *
      generalize Pd.deep x=sx at *
      generalize Pd.deepL (l.take i)=si at *
      (repeat' (first|(with_reducible first|(refine hK _ _ ?_;clear hK K)|(refine hA ?_;clear hA hB A B)|(refine hB ?_;clear hA hB A B))|((with_reducible refine z25 ?_);intro K hK;(conv=>whnf))|(with_reducible refine z0 ?_)|((first|((with_reducible refine NV.i64 ?s ?_);case s=>omega)|((with_reducible refine NIf.decY ?s ?_);case s=>omega)|(with_reducible first|refine NIf.dec (fun _=>?_) (fun _=>?_)|refine NN.cast ?_|refine NN.a5 ?_|refine NN.keep ?_)|((with_reducible refine NH.mk ?s ?_);case s=>(and_intros<;>first|with_reducible rfl|omega))|((with_reducible refine NCall.isF 46 ?_);refine NCall.subE [0] (c) rfl (by decide) rfl rfl ?_)|(with_reducible refine NLd.of (by with_reducible assumption) ?_))<;>(conv=>whnf))|(with_reducible first|refine z3 ?_|refine z4 ?_|refine z5 ?_|refine z6 ?_)|((with_reducible refine z29 ?_);intro A B hA hB;(conv=>whnf))|(with_reducible first|refine z1 ?_|refine z2 ?_|refine z9 ?_)))
      all_goals refine st_round (i+1) hlt (by omega) ?_ (MemFits.eq rfl)
      all_goals repeat (first|exact FitsSl.nil|refine FitsSl.any ?_|refine FitsSl.cons (Fit1.int (by  omega)) ?_|refine FitsSl.cons (Fit1.same (by intro h;cases h) (by with_reducible rfl)) ?_)
    · have hkl:i=l.length:=by omega
      subst hkl
      rw [List.take_length] at hle ⊢
      (repeat' (first|(with_reducible first|(refine hK _ _ ?_;clear hK K)|(refine hB ?_;clear hA hB A B)|(refine hK _ ?_;clear hK K))|((with_reducible refine z25 ?_);intro K hK;(conv=>whnf))|(with_reducible refine z0 ?_)|((first|((with_reducible refine NIf.decN ?s ?_);case s=>omega)|(with_reducible refine NN.a5 ?_)|((with_reducible refine NH.mk ?s ?_);case s=>(and_intros<;>first|with_reducible rfl|omega)))<;>(conv=>whnf))|(with_reducible first|refine z3 ?_|refine z4 ?_|refine z7 ?_|refine z8 ?_)|((with_reducible refine z29 ?_);intro A B hA hB;(conv=>whnf))|(with_reducible first|refine z1 ?_|refine z2 ?_|refine z10 ?_|refine z11 ?_|refine z19 ?_)|((with_reducible refine gR ?_);(refine z31 rfl ?_;intro K hK;(conv=>whnf)))))
      all_goals exact ⟨by rw [e],MemFits.pre 1 rfl⟩
end
theorem rptop26_c (f:Int):NCall Tryd.prog 90 [.int .i64 f] [] fun r _=>r = .int .i64 (if f=2 then 15 else if f=0∨f=1∨f=3 then 255 else 0):=by
  refine ncall_of Tryd.func90 rfl (by decide) ?_
  by_cases h2:f=2
  · rw [if_pos h2]
    (repeat' (first|(with_reducible first|(refine hK _ _ ?_;clear hK K)|(refine hA ?_;clear hA hB A B)|(refine hK _ ?_;clear hK K))|((with_reducible refine z25 ?_);intro K hK;(conv=>whnf))|(with_reducible refine z0 ?_)|(((with_reducible refine NIf.decY ?s ?_);case s=>assumption)<;>(conv=>whnf))|(with_reducible first|refine z3 ?_|refine z4 ?_|refine z8 ?_)|((with_reducible refine z29 ?_);intro A B hA hB;(conv=>whnf))|(with_reducible first|refine z1 ?_|refine z2 ?_|refine z12 ?_)|((with_reducible refine gR ?_);(refine z31 rfl ?_;intro K hK;(conv=>whnf)))|((with_reducible refine gF ?_);(refine z33 rfl ?_;intro K hK;(conv=>whnf)))))
    all_goals first | rfl | (exfalso;omega)
  · rw [if_neg h2]
    by_cases h3:f=0∨f=1∨f=3
    · rw [if_pos h3]
      (repeat' (first|(with_reducible first|(refine hK _ _ ?_;clear hK K)|(refine hA ?_;clear hA hB A B)|(refine hB ?_;clear hA hB A B)|(refine hK _ ?_;clear hK K))|((with_reducible first|refine z25 ?_|refine z26 ?_);intro K hK;(conv=>whnf))|(with_reducible refine z0 ?_)|((first|((with_reducible refine NIf.decY ?s ?_);case s=>first|assumption|omega)|((with_reducible refine NIf.decN ?s ?_);case s=>assumption)|((with_reducible refine NIf.yes ?s ?_);case s=>rfl)|(with_reducible refine NIf.dec (fun _=>?_) (fun _=>?_)))<;>(conv=>whnf))|(with_reducible first|refine z3 ?_|refine z4 ?_|refine z6 ?_|refine z8 ?_)|((with_reducible refine z29 ?_);intro A B hA hB;(conv=>whnf))|(with_reducible first|refine z1 ?_|refine z2 ?_|refine z12 ?_)|((with_reducible refine gR ?_);(refine z31 rfl ?_;intro K hK;(conv=>whnf)))|((with_reducible refine gF ?_);(refine z33 rfl ?_;intro K hK;(conv=>whnf)))))
      all_goals first | rfl | (exfalso;omega)
    · rw [if_neg h3]
      (repeat' (first|(with_reducible first|(refine hK _ _ ?_;clear hK K)|(refine hB ?_;clear hA hB A B)|(refine hK _ ?_;clear hK K))|((with_reducible first|refine z25 ?_|refine z26 ?_);intro K hK;(conv=>whnf))|(with_reducible refine z0 ?_)|(((with_reducible refine NIf.decN ?s ?_);case s=>first|assumption|omega)<;>(conv=>whnf))|(with_reducible first|refine z3 ?_|refine z4 ?_|refine z6 ?_|refine z8 ?_)|((with_reducible refine z29 ?_);intro A B hA hB;(conv=>whnf))|(with_reducible first|refine z1 ?_|refine z2 ?_)|((with_reducible refine gR ?_);(refine z31 rfl ?_;intro K hK;(conv=>whnf)))|((with_reducible refine gF ?_);(refine z33 rfl ?_;intro K hK;(conv=>whnf)))))
      all_goals first | rfl | (exfalso;omega)
theorem reftop26_c (f:Int):NCall Tryd.prog 71 [.int .i64 f] [] fun r _=>r = .int .i64 (Pd.top f):=by
  have c:=rptop26_c f
  refine ncall_of Tryd.func71 rfl (by decide) ?_
  unfold Pd.top
  by_cases h:f=4∨f=5
  · rw [if_pos h]
    (repeat' (first|(with_reducible first|(refine hK _ _ ?_;clear hK K)|(refine hA ?_;clear hA hB A B)|(refine hK _ ?_;clear hK K))|((with_reducible first|refine z25 ?_|refine z26 ?_);intro K hK;(conv=>whnf))|(with_reducible refine z0 ?_)|((first|((with_reducible refine NIf.decY ?s ?_);case s=>first|assumption|omega)|((with_reducible refine NIf.decN ?s ?_);case s=>assumption)|((with_reducible refine NIf.yes ?s ?_);case s=>rfl)|(with_reducible refine NIf.dec (fun _=>?_) (fun _=>?_)))<;>(conv=>whnf))|(with_reducible first|refine z3 ?_|refine z4 ?_|refine z8 ?_)|((with_reducible refine z29 ?_);intro A B hA hB;(conv=>whnf))|(with_reducible first|refine z1 ?_|refine z2 ?_|refine z12 ?_)|((with_reducible refine gR ?_);(refine z31 rfl ?_;intro K hK;(conv=>whnf)))|((with_reducible refine gF ?_);(refine z33 rfl ?_;intro K hK;(conv=>whnf)))))
    all_goals first | rfl | (exfalso;omega)
  · rw [if_neg h]
    (repeat' (first|(with_reducible first|(refine hK _ _ ?_;clear hK K)|(refine hB ?_;clear hA hB A B)|(refine hK _ ?_;clear hK K))|((with_reducible first|refine z25 ?_|refine z26 ?_);intro K hK;(conv=>whnf))|(with_reducible refine z0 ?_)|((first|((with_reducible refine NIf.decN ?s ?_);case s=>omega)|((with_reducible refine NCall.isF 90 ?_);refine NCall.pureE (c) ?_))<;>(conv=>whnf))|(with_reducible first|refine z3 ?_|refine z4 ?_|refine z6 ?_|refine z8 ?_)|((with_reducible refine z29 ?_);intro A B hA hB;(conv=>whnf))|(with_reducible first|refine z1 ?_|refine z2 ?_)|((with_reducible refine gR ?_);(refine z31 rfl ?_;intro K hK;(conv=>whnf)))|((with_reducible refine gF ?_);(refine z33 rfl ?_;intro K hK;(conv=>whnf)))))
    all_goals first | rfl | (exfalso;omega)
end Go.Proofs.YtaojbkphcnailaaDoor
