/- A part of the proof. -/
import Derived.Test.YtmehinfgdcmmjaaGreatDoorTJ1
import Derived.Test.YtmehinfgdcmmjaaGreatDoorProg
namespace Go.Proofs.YtmehinfgdcmmjaaGreatDoor
open Go.Sx
set_option maxRecDepth 20000
set_option linter.unusedSimpArgs false
set_option linter.unusedVariables false
set_option maxHeartbeats 2000000
namespace Pd
inductive R (F:Heap):T→List Value→Prop where
 | mk (k f v:Int) (l:List T) (A:Option Addr) (cap:Nat) (g:Nat→List Value) (hs:SlOk (.slice A l.length cap) l.length) (h1:∀ (i:Nat) (x:T),l[i]?=some x→R F x (g i))
   (h2:∀ i,i<l.length→(g i).length=4∧CellsF F (addrOf (.slice A l.length cap)) (i*4) (g i)):R F (.mk k f v l) [.int .i64 k,.int .i64 f,.int .i64 v,.slice A l.length cap]
abbrev Row (F:Heap) (v:Value) (l:List T):Prop:=aI F 4 (R F) v l
def cs (p:T) (u:Value):List AV:=[.int .i64 p.k,.int .i64 p.f,.int .i64 p.v,.hs u p.l.length]
theorem R.inv {F:Heap} {p:T} {us:List Value} (h:R F p us):∃ A cap,Row F (.slice A p.l.length cap) p.l∧us=[.int .i64 p.k,.int .i64 p.f,.int .i64 p.v,.slice A p.l.length cap]:=by
 cases h with
 | mk k f v l A cap g hs h1 h2=>exact ⟨A,cap,⟨hs,fun i x hx=>⟨g i,h1 i x hx,(h2 i (List.getElem?_eq_some_iff.1 hx).1).1,(h2 i (List.getElem?_eq_some_iff.1 hx).1).2⟩⟩,rfl⟩
theorem R.of {F:Heap} {p:T} {A:Option Addr} {cap:Nat} (h:Row F (.slice A p.l.length cap) p.l):R F p [.int .i64 p.k,.int .i64 p.f,.int .i64 p.v,.slice A p.l.length cap]:=by
 obtain ⟨k,f,v,l⟩:=p
 have hg:∀ i:Nat,∃ g:List Value,∀ x,l[i]?=some x→R F x g∧g.length=4∧CellsF F (addrOf (.slice A l.length cap)) (i*4) g:=fun i=>by
  cases hx:l[i]? with
  | none=>exact ⟨[],fun x e=>by cases e⟩
  | some x =>
   obtain ⟨g,h1,h2,h3⟩:=h.at_ i x hx
   exact ⟨g,fun y e=>by cases e;exact ⟨h1,h2,h3⟩⟩
 refine R.mk k f v l A cap (fun i=>Classical.choose (hg i)) h.ok (fun i x hx=>(Classical.choose_spec (hg i) x hx).1) fun i hi=>?_
 have:=Classical.choose_spec (hg i) l[i] (List.getElem?_eq_getElem hi)
 exact ⟨this.2.1,this.2.2⟩
theorem R.mono {F G:Heap} (h:F.le G) {p:T} {us:List Value} (hp:R F p us):R G p us:=by
 induction hp with
 | mk k f v l A cap g hs _ h2 ih=>exact R.mk k f v l A cap g hs ih fun i hi=>⟨(h2 i hi).1,(h2 i hi).2.mono h⟩
theorem Row.mono {F G:Heap} (h:F.le G) {v:Value} {l:List T} (hv:Row F v l):Row G v l:=aI.mono h (fun _ _ hp=>R.mono h hp) hv
theorem Row.get {F:Heap} {v:Value} {l:List T} (h:Row F v l) {i:Nat} {x:T} (hx:l[i]?=some x):∃ A cap,Row F (.slice A x.l.length cap) x.l ∧
  (F.c ((addrOf v).add (i*4)) (.int .i64 x.k)∧F.c ((addrOf v).add (i*4+1)) (.int .i64 x.f)∧F.c ((addrOf v).add (i*4+2)) (.int .i64 x.v)∧F.c ((addrOf v).add (i*4+3)) (.slice A x.l.length cap)):=by
 obtain ⟨us,h1,_,h2⟩:=h.at_ i x hx
 obtain ⟨A,cap,h3,rfl⟩:=h1.inv
 simp only [CellsF,Nat.add_assoc,Nat.reduceAdd] at h2
 obtain ⟨c0,c1,c2,c3,_⟩:=h2
 exact ⟨A,cap,h3,c0,c1,c2,c3⟩
mutual
def in64:T→Prop
 | .mk k f v l=>((-9223372036854775808≤k∧k≤9223372036854775807)∧(-9223372036854775808≤f∧f≤9223372036854775807)∧(-9223372036854775808≤v∧v≤9223372036854775807))∧in64L l
def in64L:List T→Prop
 | []=>True
 | p::l=>in64 p∧in64L l
end
theorem in64L_iff (l:List T):in64L l↔∀ p∈l,in64 p:=by
 induction l with
 | nil=>simp [in64L]
 | cons p l ih=>simp only [in64L,ih,List.mem_cons,forall_eq_or_imp]
end Pd
section
variable (F:Heap)
theorem size26_c:∀ (n:Nat) (p:Pd.T) (u:Value),Pd.size p≤n→Pd.size p≤4611686018427387904→Pd.Row F u p.l →
  Qz Tryz.prog 141 [.agg (Pd.cs p u)] [hpB F] fun r m=>r = .int .i64 (Pd.size p:Nat)∧m=[hpB F]
 | 0,p,u,hn,_,_=>absurd (Pd.size_pos p) (by omega)
 | n+1,⟨k,f,v,l⟩,u,hn,hs,hu=>by
  refine Qz.fits (K:=fun r m=>r = .int .i64 (Pd.size (.mk k f v l):Nat)∧Qw m [hpB F]) ?_ fun r m' h=>⟨r,_,rfl,h.2,h.1,rfl⟩
  have hu:Pd.Row F u l:=hu
  have hok:=hu.ok
  have e:Pd.size (.mk k f v l)=1+Pd.sizeL l:=by rw [Pd.size]
  have hll:=Pd.length_le l
  have ih:∀ x∈l,∀ w,Pd.Row F w x.l→_:=fun x hx w hw=>size26_c n x w (by have:=Pd.size_lt (k:=k) (f:=f) (v:=v) hx;omega) (by have:=Pd.size_lt (k:=k) (f:=f) (v:=v) hx;omega) hw
  refine aB Tryz.func141 rfl (by decide) ?_
  show funcK _ _ [.agg [.int .i64 k,.int .i64 f,.int .i64 v,.hs u l.length]] _ _
  repeat' first|(refine sxZ ?_;try clear hK K)|refine sxW ?_ ?_<;>intro _|(intro K hK _;conv=>whnf)
  refine aE (α:=Nat) (fun i=>i≤l.length) (fun i=>[.k,.k,.k,.set (.int .i64 (1+Pd.sizeL (l.take i):Nat)),.k,.d,.k,.k,.k,.set (.int .i64 i),.d,.d,.d,.d,.d,.d,.d,.d,.k]) (fun _=>[]) (fun i=>l.length - i) 0 (Nat.zero_le _) ?_ (Qw.eq rfl) ?_
  ·repeat (first | exact Qq.nil | refine Qq.any ?_ | refine Qq.cons (Fit1.int (by  simp [Pd.sizeL])) ?_ | refine Qq.cons (Fit1.int (by first | rfl | omega)) ?_ | refine Qq.cons (Fit1.bool rfl) ?_ | refine Qq.cons (Fit1.str rfl) ?_ | refine Qq.cons (Fit1.same (by intro h;cases h) (by with_reducible rfl)) ?_ | refine Qq.cons Fit1.nil_sl ?_ | refine Qq.cons (Fit1.hs rfl) ?_ | refine Qq.cons (Fit1.hp rfl rfl) ?_ | refine Qq.cons (Fit1.sl rfl) ?_ | refine Qq.cons (Fit1.ptr rfl rfl) ?_ | refine Qq.cons Fit1.raw ?_)
  (intro i hi;intro K hK;(conv=>whnf);refine hK _ _ ?_;clear hK K)
  have hle:=Pd.sizeL_le (l:=l) (k:=i)
  by_cases hlt:i<l.length
  ·have hx:l[i]?=some l[i]:=List.getElem?_eq_getElem hlt
   obtain ⟨A,cap,hA,c0,c1,c2,c3⟩:=hu.get hx
   have hmem:=List.mem_of_getElem? hx
   have hnx:=Pd.sizeL_take hlt
   have hle2:=Pd.sizeL_le (l:=l) (k:=i+1)
   have c:=ih _ hmem _ hA
   simp only [Pd.cs] at c
   generalize l[i]=x at *
   generalize Pd.size x=sx at *
   generalize Pd.sizeL (l.take i)=si at *
   repeat' first|(intro K hK;(with_reducible refine gC ?_);refine cS [0] c ?_)|(refine sxZ ?_;try clear hK K)|refine sxW ?_ ?_<;>intro _|(intro K hK _;conv=>whnf)
   refine aC (i+1) hlt (by omega) ?_ (Qw.pre 2 rfl)
   repeat (first | exact Qq.nil | refine Qq.any ?_ | refine Qq.cons (Fit1.int (by  omega)) ?_ | refine Qq.cons (Fit1.int (by first | rfl | omega)) ?_ | refine Qq.cons (Fit1.bool rfl) ?_ | refine Qq.cons (Fit1.str rfl) ?_ | refine Qq.cons (Fit1.same (by intro h;cases h) (by with_reducible rfl)) ?_ | refine Qq.cons Fit1.nil_sl ?_ | refine Qq.cons (Fit1.hs rfl) ?_ | refine Qq.cons (Fit1.hp rfl rfl) ?_ | refine Qq.cons (Fit1.sl rfl) ?_ | refine Qq.cons (Fit1.ptr rfl rfl) ?_ | refine Qq.cons Fit1.raw ?_)
  ·have hkl:i=l.length:=by omega
   subst hkl
   rw [List.take_length] at hle ⊢
   repeat' first|(refine sxZ ?_;try clear hK K)|refine sxW ?_ ?_<;>intro _|(intro K hK _;conv=>whnf)
   all_goals exact ⟨by rw [e],Qw.pre 1 rfl⟩
end
open Go.Sx
set_option maxRecDepth 20000
set_option linter.unusedSimpArgs false
set_option linter.unusedVariables false
set_option maxHeartbeats 2000000
set_option linter.unusedVariables false
theorem pd_cs (k f v:Int) (l:List Pd.T) (u:Value):Pd.cs (.mk k f v l) u=[.int .i64 k,.int .i64 f,.int .i64 v,.hs u l.length]:=rfl
section
variable (F:Heap)
theorem refsize26_c:∀ (n:Nat) (p:Pd.T) (u:Value),Pd.size p≤n→Pd.size p≤4611686018427387904→Pd.Row F u p.l →
  Qz Tryz.prog 46 [.agg (Pd.cs p u)] [hpB F] fun r m=>r = .int .i64 (Pd.size p:Nat)∧m=[hpB F]
 | 0,p,u,hn,_,_=>absurd (Pd.size_pos p) (by omega)
 | n+1,⟨k,f,v,l⟩,u,hn,hs,hu=>by
  refine Qz.fits (K:=fun r m=>r = .int .i64 (Pd.size (.mk k f v l):Nat)∧Qw m [hpB F]) ?_ fun r m' h=>⟨r,_,rfl,h.2,h.1,rfl⟩
  have hu:Pd.Row F u l:=hu
  have hok:=hu.ok
  have e:Pd.size (.mk k f v l)=1+Pd.sizeL l:=by rw [Pd.size]
  have hll:=Pd.length_le l
  have ih:∀ x∈l,∀ w,Pd.Row F w x.l→_:=fun x hx w hw=>refsize26_c n x w (by have:=Pd.size_lt (k:=k) (f:=f) (v:=v) hx;omega) (by have:=Pd.size_lt (k:=k) (f:=f) (v:=v) hx;omega) hw
  refine aB Tryz.func46 rfl (by decide) ?_
  rw [pd_cs]
  repeat' first|(refine sxZ ?_;try clear hK K)|refine sxW ?_ ?_<;>intro _|(intro K hK _;conv=>whnf)
  refine aE (α:=Nat) (fun i=>i≤l.length) (fun i=>[.k,.k,.k,.set (.int .i64 (1+Pd.sizeL (l.take i):Nat)),.set (.int .i64 i),.d,.d,.d,.d,.d,.d,.d,.d,.d,.d,.d,.d,.d,.d,.d,.k]) (fun _=>[]) (fun i=>l.length - i) 0 (Nat.zero_le _) ?_ (Qw.eq rfl) ?_
  ·repeat (first | exact Qq.nil | refine Qq.any ?_ | refine Qq.cons (Fit1.int (by  simp [Pd.sizeL])) ?_ | refine Qq.cons (Fit1.int (by first | rfl | omega)) ?_ | refine Qq.cons (Fit1.bool rfl) ?_ | refine Qq.cons (Fit1.str rfl) ?_ | refine Qq.cons (Fit1.same (by intro h;cases h) (by with_reducible rfl)) ?_ | refine Qq.cons Fit1.nil_sl ?_ | refine Qq.cons (Fit1.hs rfl) ?_ | refine Qq.cons (Fit1.hp rfl rfl) ?_ | refine Qq.cons (Fit1.sl rfl) ?_ | refine Qq.cons (Fit1.ptr rfl rfl) ?_ | refine Qq.cons Fit1.raw ?_)
  (intro i hi;intro K hK;(conv=>whnf);refine hK _ _ ?_;clear hK K)
  have hle:=Pd.sizeL_le (l:=l) (k:=i)
  by_cases hlt:i<l.length
  ·have hx:l[i]?=some l[i]:=List.getElem?_eq_getElem hlt
   obtain ⟨A,cap,hA,c0,c1,c2,c3⟩:=hu.get hx
   have hmem:=List.mem_of_getElem? hx
   have hnx:=Pd.sizeL_take hlt
   have hle2:=Pd.sizeL_le (l:=l) (k:=i+1)
   have c:=ih _ hmem _ hA
   simp only [Pd.cs] at c
   generalize l[i]=x at *
   generalize Pd.size x=sx at *
   generalize Pd.sizeL (l.take i)=si at *
   repeat' first|(intro K hK;(with_reducible refine gC ?_);refine cS [0] c ?_)|(refine sxZ ?_;try clear hK K)|refine sxW ?_ ?_<;>intro _|(intro K hK _;conv=>whnf)
   refine aC (i+1) hlt (by omega) ?_ (Qw.eq rfl)
   repeat (first | exact Qq.nil | refine Qq.any ?_ | refine Qq.cons (Fit1.int (by  omega)) ?_ | refine Qq.cons (Fit1.int (by first | rfl | omega)) ?_ | refine Qq.cons (Fit1.bool rfl) ?_ | refine Qq.cons (Fit1.str rfl) ?_ | refine Qq.cons (Fit1.same (by intro h;cases h) (by with_reducible rfl)) ?_ | refine Qq.cons Fit1.nil_sl ?_ | refine Qq.cons (Fit1.hs rfl) ?_ | refine Qq.cons (Fit1.hp rfl rfl) ?_ | refine Qq.cons (Fit1.sl rfl) ?_ | refine Qq.cons (Fit1.ptr rfl rfl) ?_ | refine Qq.cons Fit1.raw ?_)
  ·have hkl:i=l.length:=by omega
   subst hkl
   rw [List.take_length] at hle ⊢
   repeat' first|(refine sxZ ?_;try clear hK K)|refine sxW ?_ ?_<;>intro _|(intro K hK _;conv=>whnf)
   all_goals exact ⟨by rw [e],Qw.pre 1 rfl⟩
theorem deep26_c:∀ (n:Nat) (p:Pd.T) (u:Value),Pd.size p≤n→Pd.size p≤4611686018427387904→Pd.Row F u p.l →
  Qz Tryz.prog 226 [.agg (Pd.cs p u)] [hpB F] fun r m=>r = .int .i64 (Pd.deep p:Nat)∧m=[hpB F]
 | 0,p,u,hn,_,_=>absurd (Pd.size_pos p) (by omega)
 | n+1,⟨k,f,v,l⟩,u,hn,hs,hu=>by
  refine Qz.fits (K:=fun r m=>r = .int .i64 (Pd.deep (.mk k f v l):Nat)∧Qw m [hpB F]) ?_ fun r m' h=>⟨r,_,rfl,h.2,h.1,rfl⟩
  have hu:Pd.Row F u l:=hu
  have hok:=hu.ok
  have e:Pd.deep (.mk k f v l)=1+Pd.deepL l:=by rw [Pd.deep]
  have e2:Pd.size (.mk k f v l)=1+Pd.sizeL l:=by rw [Pd.size]
  have hll:=Pd.length_le l
  have ih:∀ x∈l,∀ w,Pd.Row F w x.l→_:=fun x hx w hw=>deep26_c n x w (by have:=Pd.size_lt (k:=k) (f:=f) (v:=v) hx;omega) (by have:=Pd.size_lt (k:=k) (f:=f) (v:=v) hx;omega) hw
  refine aB Tryz.func226 rfl (by decide) ?_
  rw [pd_cs]
  repeat' first|(refine sxZ ?_;try clear hK K)|refine sxW ?_ ?_<;>intro _|(intro K hK _;conv=>whnf)
  refine aE (α:=Nat) (fun i=>i≤l.length) (fun i=>[.k,.k,.k,.set (.int .i64 (Pd.deepL (l.take i):Nat)),.k,.d,.k,.k,.k,.set (.int .i64 i),.d,.d,.d,.d,.d,.d,.d,.d,.k,.k]) (fun _=>[]) (fun i=>l.length - i) 0 (Nat.zero_le _) ?_ (Qw.eq rfl) ?_
  ·repeat (first | exact Qq.nil | refine Qq.any ?_ | refine Qq.cons (Fit1.int (by  simp [Pd.deepL])) ?_ | refine Qq.cons (Fit1.int (by first | rfl | omega)) ?_ | refine Qq.cons (Fit1.bool rfl) ?_ | refine Qq.cons (Fit1.str rfl) ?_ | refine Qq.cons (Fit1.same (by intro h;cases h) (by with_reducible rfl)) ?_ | refine Qq.cons Fit1.nil_sl ?_ | refine Qq.cons (Fit1.hs rfl) ?_ | refine Qq.cons (Fit1.hp rfl rfl) ?_ | refine Qq.cons (Fit1.sl rfl) ?_ | refine Qq.cons (Fit1.ptr rfl rfl) ?_ | refine Qq.cons Fit1.raw ?_)
  (intro i hi;intro K hK;(conv=>whnf);refine hK _ _ ?_;clear hK K)
  have hle:=Nat.le_trans (Pd.deepL_size (l.take i)) (Pd.sizeL_le (l:=l) (k:=i))
  by_cases hlt:i<l.length
  ·have hx:l[i]?=some l[i]:=List.getElem?_eq_getElem hlt
   obtain ⟨A,cap,hA,c0,c1,c2,c3⟩:=hu.get hx
   have hmem:=List.mem_of_getElem? hx
   have hnx:=Pd.deepL_take hlt
   have hle2:=Nat.le_trans (Pd.deepL_size (l.take (i+1))) (Pd.sizeL_le (l:=l) (k:=i+1))
   have c:=ih _ hmem _ hA
   simp only [Pd.cs] at c
   generalize l[i]=x at *
   generalize Pd.deep x=sx at *
   generalize Pd.deepL (l.take i)=si at *
   repeat' first|(intro K hK;(with_reducible refine gC ?_);refine cS [0] c ?_)|(refine sxZ ?_;try clear hK K)|refine sxW ?_ ?_<;>intro _|(intro K hK _;conv=>whnf)
   refine aC (i+1) hlt (by omega) ?_ (Qw.pre 2 rfl)
   repeat (first | exact Qq.nil | refine Qq.any ?_ | refine Qq.cons (Fit1.int (by  omega)) ?_ | refine Qq.cons (Fit1.int (by first | rfl | omega)) ?_ | refine Qq.cons (Fit1.bool rfl) ?_ | refine Qq.cons (Fit1.str rfl) ?_ | refine Qq.cons (Fit1.same (by intro h;cases h) (by with_reducible rfl)) ?_ | refine Qq.cons Fit1.nil_sl ?_ | refine Qq.cons (Fit1.hs rfl) ?_ | refine Qq.cons (Fit1.hp rfl rfl) ?_ | refine Qq.cons (Fit1.sl rfl) ?_ | refine Qq.cons (Fit1.ptr rfl rfl) ?_ | refine Qq.cons Fit1.raw ?_)
  ·have hkl:i=l.length:=by omega
   subst hkl
   rw [List.take_length] at hle ⊢
   repeat' first|(refine sxZ ?_;try clear hK K)|refine sxW ?_ ?_<;>intro _|(intro K hK _;conv=>whnf)
   all_goals exact ⟨by rw [e];congr 1;omega,Qw.pre 1 rfl⟩
theorem refdeep26_c:∀ (n:Nat) (p:Pd.T) (u:Value),Pd.size p≤n→Pd.size p≤4611686018427387904→Pd.Row F u p.l →
  Qz Tryz.prog 85 [.agg (Pd.cs p u)] [hpB F] fun r m=>r = .int .i64 (Pd.deep p:Nat)∧m=[hpB F]
 | 0,p,u,hn,_,_=>absurd (Pd.size_pos p) (by omega)
 | n+1,⟨k,f,v,l⟩,u,hn,hs,hu=>by
  refine Qz.fits (K:=fun r m=>r = .int .i64 (Pd.deep (.mk k f v l):Nat)∧Qw m [hpB F]) ?_ fun r m' h=>⟨r,_,rfl,h.2,h.1,rfl⟩
  have hu:Pd.Row F u l:=hu
  have hok:=hu.ok
  have e:Pd.deep (.mk k f v l)=1+Pd.deepL l:=by rw [Pd.deep]
  have e2:Pd.size (.mk k f v l)=1+Pd.sizeL l:=by rw [Pd.size]
  have hll:=Pd.length_le l
  have ih:∀ x∈l,∀ w,Pd.Row F w x.l→_:=fun x hx w hw=>refdeep26_c n x w (by have:=Pd.size_lt (k:=k) (f:=f) (v:=v) hx;omega) (by have:=Pd.size_lt (k:=k) (f:=f) (v:=v) hx;omega) hw
  refine aB Tryz.func85 rfl (by decide) ?_
  rw [pd_cs]
  repeat' first|(refine sxZ ?_;try clear hK K)|refine sxW ?_ ?_<;>intro _|(intro K hK _;conv=>whnf)
  refine aE (α:=Nat) (fun i=>i≤l.length) (fun i=>[.k,.k,.k,.set (.int .i64 (1+Pd.deepL (l.take i):Nat)),.set (.int .i64 i),.d,.d,.d,.d,.d,.d,.d,.d,.d,.d,.d,.d,.d,.d,.d,.d,.d,.d,.d,.d,.d,.d,.d,.k]) (fun _=>[]) (fun i=>l.length - i) 0 (Nat.zero_le _) ?_ (Qw.eq rfl) ?_
  ·repeat (first | exact Qq.nil | refine Qq.any ?_ | refine Qq.cons (Fit1.int (by  simp [Pd.deepL])) ?_ | refine Qq.cons (Fit1.int (by first | rfl | omega)) ?_ | refine Qq.cons (Fit1.bool rfl) ?_ | refine Qq.cons (Fit1.str rfl) ?_ | refine Qq.cons (Fit1.same (by intro h;cases h) (by with_reducible rfl)) ?_ | refine Qq.cons Fit1.nil_sl ?_ | refine Qq.cons (Fit1.hs rfl) ?_ | refine Qq.cons (Fit1.hp rfl rfl) ?_ | refine Qq.cons (Fit1.sl rfl) ?_ | refine Qq.cons (Fit1.ptr rfl rfl) ?_ | refine Qq.cons Fit1.raw ?_)
  (intro i hi;intro K hK;(conv=>whnf);refine hK _ _ ?_;clear hK K)
  have hle:=Nat.le_trans (Pd.deepL_size (l.take i)) (Pd.sizeL_le (l:=l) (k:=i))
  by_cases hlt:i<l.length
  ·have hx:l[i]?=some l[i]:=List.getElem?_eq_getElem hlt
   obtain ⟨A,cap,hA,c0,c1,c2,c3⟩:=hu.get hx
   have hmem:=List.mem_of_getElem? hx
   have hnx:=Pd.deepL_take hlt
   have hle2:=Nat.le_trans (Pd.deepL_size (l.take (i+1))) (Pd.sizeL_le (l:=l) (k:=i+1))
   have c:=ih _ hmem _ hA
   simp only [Pd.cs] at c
   generalize l[i]=x at *
   generalize Pd.deep x=sx at *
   generalize Pd.deepL (l.take i)=si at *
   repeat' first|(intro K hK;(with_reducible refine gC ?_);refine cS [0] c ?_)|(refine sxZ ?_;try clear hK K)|refine sxW ?_ ?_<;>intro _|(intro K hK _;conv=>whnf)
   all_goals refine aC (i+1) hlt (by omega) ?_ (Qw.eq rfl)
   all_goals repeat (first | exact Qq.nil | refine Qq.any ?_ | refine Qq.cons (Fit1.int (by  omega)) ?_ | refine Qq.cons (Fit1.int (by first | rfl | omega)) ?_ | refine Qq.cons (Fit1.bool rfl) ?_ | refine Qq.cons (Fit1.str rfl) ?_ | refine Qq.cons (Fit1.same (by intro h;cases h) (by with_reducible rfl)) ?_ | refine Qq.cons Fit1.nil_sl ?_ | refine Qq.cons (Fit1.hs rfl) ?_ | refine Qq.cons (Fit1.hp rfl rfl) ?_ | refine Qq.cons (Fit1.sl rfl) ?_ | refine Qq.cons (Fit1.ptr rfl rfl) ?_ | refine Qq.cons Fit1.raw ?_)
  ·have hkl:i=l.length:=by omega
   subst hkl
   rw [List.take_length] at hle ⊢
   repeat' first|(refine sxZ ?_;try clear hK K)|refine sxW ?_ ?_<;>intro _|(intro K hK _;conv=>whnf)
   all_goals exact ⟨by rw [e],Qw.pre 1 rfl⟩
end
theorem bits26_c (f:Int):Qz Tryz.prog 109 [.int .i64 f] [] fun r _=>r = .int .i64 (if f=2 then 4 else if f=0∨f=1∨f=3 then 8 else 0):=by
 refine aB Tryz.func109 rfl (by decide) ?_
 by_cases h:0≤f∧f≤3
 ·have:f=0∨f=1∨f=2∨f=3:=by omega
  rcases this with rfl | rfl | rfl | rfl
  all_goals (repeat' first|(refine sxZ ?_;try clear hK K)|refine sxW ?_ ?_<;>intro _|(intro K hK _;conv=>whnf))
  all_goals rfl
 ·rw [if_neg (by omega),if_neg (by omega)]
  repeat' first|(refine sxZ ?_;try clear hK K)|refine sxW ?_ ?_<;>intro _|(intro K hK _;conv=>whnf)
  all_goals first | rfl | (exfalso;omega)
theorem ptop26_c (f:Int):Qz Tryz.prog 61 [.int .i64 f] [] fun r _=>r = .int .i64 (if f=2 then 15 else if f=0∨f=1∨f=3 then 255 else 0):=by
 have c:=bits26_c f
 have e4:IntKind.i64.wrap (1*2 ^ min (Int.toNat 4) IntKind.i64.bits)=16:=by decide +kernel
 have e8:IntKind.i64.wrap (1*2 ^ min (Int.toNat 8) IntKind.i64.bits)=256:=by decide +kernel
 have e0:IntKind.i64.wrap (1*2 ^ min (Int.toNat 0) IntKind.i64.bits)=1:=by decide +kernel
 refine aB Tryz.func61 rfl (by decide) ?_
 by_cases h2:f=2
 ·rw [if_pos h2] at c ⊢
  (repeat' (first|(with_reducible first|(refine hK _ _ ?_;clear hK K)|(refine hA ?_;clear hA hB A B)|(refine hB ?_;clear hA hB A B)|(refine hK _ ?_;clear hK K))|((first|((with_reducible refine gC ?_);refine Qz.pureE (c) ?_)|(with_reducible refine NV.eq (e4) ?_))<;>(conv=>whnf))|refine dY ?_|refine eF ?_|((with_reducible refine gX ?_);refine z34 (by kernel_rfl) (by kernel_rfl) ?_)|(refine eG ?_;intro K hK;conv=>whnf)|(refine eH ?_;intro A B hA hB;conv=>whnf)|((with_reducible first|refine NIf.dec (fun _=>?_) (fun _=>?_)|refine NIf.both (fun _=>?_) (fun _=>?_))<;>(conv=>whnf))|((intro _;skip)<;>(conv=>whnf))))
  all_goals rfl
 ·rw [if_neg h2] at c ⊢
  by_cases h3:f=0∨f=1∨f=3
  ·rw [if_pos h3] at c ⊢
   (repeat' (first|(with_reducible first|(refine hK _ _ ?_;clear hK K)|(refine hA ?_;clear hA hB A B)|(refine hB ?_;clear hA hB A B)|(refine hK _ ?_;clear hK K))|((first|((with_reducible refine gC ?_);refine Qz.pureE (c) ?_)|(with_reducible refine NV.eq (e8) ?_))<;>(conv=>whnf))|refine dY ?_|refine eF ?_|((with_reducible refine gX ?_);refine z34 (by kernel_rfl) (by kernel_rfl) ?_)|(refine eG ?_;intro K hK;conv=>whnf)|(refine eH ?_;intro A B hA hB;conv=>whnf)|((with_reducible first|refine NIf.dec (fun _=>?_) (fun _=>?_)|refine NIf.both (fun _=>?_) (fun _=>?_))<;>(conv=>whnf))|((intro _;skip)<;>(conv=>whnf))))
   all_goals rfl
  ·rw [if_neg h3] at c ⊢
   (repeat' (first|(with_reducible first|(refine hK _ _ ?_;clear hK K)|(refine hA ?_;clear hA hB A B)|(refine hB ?_;clear hA hB A B)|(refine hK _ ?_;clear hK K))|((first|((with_reducible refine gC ?_);refine Qz.pureE (c) ?_)|(with_reducible refine NV.eq (e0) ?_))<;>(conv=>whnf))|refine dY ?_|refine eF ?_|((with_reducible refine gX ?_);refine z34 (by kernel_rfl) (by kernel_rfl) ?_)|(refine eG ?_;intro K hK;conv=>whnf)|(refine eH ?_;intro A B hA hB;conv=>whnf)|((with_reducible first|refine NIf.dec (fun _=>?_) (fun _=>?_)|refine NIf.both (fun _=>?_) (fun _=>?_))<;>(conv=>whnf))|((intro _;skip)<;>(conv=>whnf))))
   all_goals rfl
theorem rptop26_c (f:Int):Qz Tryz.prog 23 [.int .i64 f] [] fun r _=>r = .int .i64 (if f=2 then 15 else if f=0∨f=1∨f=3 then 255 else 0):=by
 refine aB Tryz.func23 rfl (by decide) ?_
 by_cases h2:f=2
 ·rw [if_pos h2]
  repeat' first|(refine sxZ ?_;try clear hK K)|refine sxW ?_ ?_<;>intro _|(intro K hK _;conv=>whnf)
  all_goals first | rfl | (exfalso;omega)
 ·rw [if_neg h2]
  by_cases h3:f=0∨f=1∨f=3
  ·rw [if_pos h3]
   repeat' first|(refine sxZ ?_;try clear hK K)|refine sxW ?_ ?_<;>intro _|(intro K hK _;conv=>whnf)
   all_goals first | rfl | (exfalso;omega)
  ·rw [if_neg h3]
   repeat' first|(refine sxZ ?_;try clear hK K)|refine sxW ?_ ?_<;>intro _|(intro K hK _;conv=>whnf)
   all_goals first | rfl | (exfalso;omega)
theorem top26_c (f:Int):Qz Tryz.prog 184 [.int .i64 f] [] fun r _=>r = .int .i64 (Pd.top f):=by
 have c:=ptop26_c f
 refine aB Tryz.func184 rfl (by decide) ?_
 unfold Pd.top
 by_cases h:f=4∨f=5
 ·rw [if_pos h]
  repeat' first|(refine sxZ ?_;try clear hK K)|refine sxW ?_ ?_<;>intro _|(intro K hK _;conv=>whnf)
  all_goals first | rfl | (exfalso;omega)
 ·rw [if_neg h]
  repeat' first|(intro K hK;(with_reducible refine gC ?_);refine cP c ?_)|(refine sxZ ?_;try clear hK K)|refine sxW ?_ ?_<;>intro _|(intro K hK _;conv=>whnf)
  all_goals first | rfl | (exfalso;omega)
theorem reftop26_c (f:Int):Qz Tryz.prog 45 [.int .i64 f] [] fun r _=>r = .int .i64 (Pd.top f):=by
 have c:=rptop26_c f
 refine aB Tryz.func45 rfl (by decide) ?_
 unfold Pd.top
 by_cases h:f=4∨f=5
 ·rw [if_pos h]
  repeat' first|(refine sxZ ?_;try clear hK K)|refine sxW ?_ ?_<;>intro _|(intro K hK _;conv=>whnf)
  all_goals first | rfl | (exfalso;omega)
 ·rw [if_neg h]
  repeat' first|(intro K hK;(with_reducible refine gC ?_);refine cP c ?_)|(refine sxZ ?_;try clear hK K)|refine sxW ?_ ?_<;>intro _|(intro K hK _;conv=>whnf)
  all_goals first | rfl | (exfalso;omega)
theorem get26_c (f:Int) (x:Pd.At):Qz Tryz.prog 155 [.int .i64 f,.int .i64 x.sw,.int .i64 x.port,.agg [.int .i64 x.p0,.int .i64 x.p1,.int .i64 x.p2,.int .i64 x.p3]] [] fun r _=>r = .int .i64 (Pd.get f x):=by
 refine aB Tryz.func155 rfl (by decide) ?_
 unfold Pd.get
 by_cases h:0≤f∧f≤5
 ·have:f=0∨f=1∨f=2∨f=3∨f=4∨f=5:=by omega
  rcases this with rfl | rfl | rfl | rfl | rfl | rfl
  all_goals (repeat' first|(refine sxZ ?_;try clear hK K)|refine sxW ?_ ?_<;>intro _|(intro K hK _;conv=>whnf))
  all_goals first | rfl | (exfalso;omega)
 ·rw [if_neg (by omega),if_neg (by omega),if_neg (by omega),if_neg (by omega),if_neg (by omega),if_neg (by omega)]
  repeat' first|(refine sxZ ?_;try clear hK K)|refine sxW ?_ ?_<;>intro _|(intro K hK _;conv=>whnf)
  all_goals first | rfl | (exfalso;omega)
theorem refget26_c (f:Int) (x:Pd.At):Qz Tryz.prog 233 [.int .i64 f,.int .i64 x.sw,.int .i64 x.port,.agg [.int .i64 x.p0,.int .i64 x.p1,.int .i64 x.p2,.int .i64 x.p3]] [] fun r _=>r = .int .i64 (Pd.get f x):=by
 refine aB Tryz.func233 rfl (by decide) ?_
 unfold Pd.get
 by_cases h:0≤f∧f≤5
 ·have:f=0∨f=1∨f=2∨f=3∨f=4∨f=5:=by omega
  rcases this with rfl | rfl | rfl | rfl | rfl | rfl
  all_goals (repeat' first|(refine sxZ ?_;try clear hK K)|refine sxW ?_ ?_<;>intro _|(intro K hK _;conv=>whnf))
  all_goals first | rfl | (exfalso;omega)
 ·rw [if_neg (by omega),if_neg (by omega),if_neg (by omega),if_neg (by omega),if_neg (by omega),if_neg (by omega)]
  repeat' first|(refine sxZ ?_;try clear hK K)|refine sxW ?_ ?_<;>intro _|(intro K hK _;conv=>whnf)
  all_goals first | rfl | (exfalso;omega)
end Go.Proofs.YtmehinfgdcmmjaaGreatDoor
