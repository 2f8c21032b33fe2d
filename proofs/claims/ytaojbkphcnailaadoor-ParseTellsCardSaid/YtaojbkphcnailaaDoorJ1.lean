import Derived.Test.YtaojbkphcnailaaDoorSxC
namespace Go.Proofs.YtaojbkphcnailaaDoor
open Go.Sx
set_option maxRecDepth 20000
set_option linter.unusedVariables false
namespace Pd
inductive T where
  | mk (k f v:Int) (l:List T)
def T.k:T→Int | .mk k _ _ _=>k
def T.f:T→Int | .mk _ f _ _=>f
def T.v:T→Int | .mk _ _ v _=>v
def T.l:T→List T | .mk _ _ _ l=>l
mutual
def size:T→Nat
  | .mk _ _ _ l=>1+sizeL l
def sizeL:List T→Nat
  | []=>0
  | p::l=>size p+sizeL l
end
mutual
def deep:T→Nat
  | .mk _ _ _ l=>1+deepL l
def deepL:List T→Nat
  | []=>0
  | p::l=>max (deep p) (deepL l)
end
mutual
def same:T→T→Bool
  | .mk k f v l,.mk k' f' v' l'=>decide (k=k')&&decide (f=f')&&decide (v=v')&&sameL l l'
def sameL:List T→List T→Bool
  | [],[]=>true
  | p::l,q::l'=>same p q&&sameL l l'
  | _,_=>false
end
def top (f:Int):Int:=if f=4∨f=5 then 7 else if f=2 then 15 else if f=0∨f=1∨f=3 then 255 else 0
def shape (k f v:Int) (n:Nat):Bool :=
  decide (k=3∧(0≤f∧f≤5)∧(0≤v∧v≤top f)∧n=0∨(k=1∨k=2)∧f=0∧v=0∧n=0∨k=4∧f=0∧v=0∧n=1∨(k=5∨k=6)∧f=0∧v=0∧2≤n∧n≤8)
mutual
def fits:T→Bool
  | .mk k f v l=>shape k f v l.length&&fitsL l
def fitsL:List T→Bool
  | []=>true
  | p::l=>fits p&&fitsL l
end
def right (p:T):Bool:=fits p&&(decide (size p≤64)&&decide (deep p≤8))
theorem size_pos:∀ p:T,1≤size p
  | .mk _ _ _ l=>by rw [size];omega
theorem size_lt {k f v:Int} {l:List T} {p:T} (h:p∈l):size p<size (.mk k f v l):=by
  have:size p≤sizeL l:=by
    induction l with
    | nil=>cases h
    | cons q l ih =>
      rw [sizeL]
      rcases List.mem_cons.1 h with rfl | h
      · omega
      · have:=ih h;omega
  rw [size];omega
theorem length_le (l:List T):l.length≤sizeL l:=by
  induction l with
  | nil=>simp [sizeL]
  | cons p l ih=>have:=size_pos p;rw [sizeL,List.length_cons];omega
theorem fitsL_iff (l:List T):fitsL l=true↔∀ p∈l,fits p=true:=by
  induction l with
  | nil=>simp [fitsL]
  | cons p l ih=>simp only [fitsL,Bool.and_eq_true,ih,List.mem_cons,forall_eq_or_imp]
theorem sameL_iff:∀ (a b:List T),sameL a b=true↔a.length=b.length∧∀ (k:Nat) (x y:T),a[k]?=some x→b[k]?=some y→same x y=true
  | [],[]=>by simp [sameL]
  | [],_::_=>by simp [sameL]
  | _::_,[]=>by simp [sameL]
  | x::a,y::b=>by
    simp only [sameL,Bool.and_eq_true,sameL_iff a b]
    constructor
    · rintro ⟨h1,h2,h3⟩
      refine ⟨by simp [h2],fun k p q hp hq=>?_⟩
      cases k with
      | zero=>simp at hp hq;subst hp hq;exact h1
      | succ k=>exact h3 k p q (by simpa using hp) (by simpa using hq)
    · rintro ⟨h1,h2⟩
      exact ⟨h2 0 x y rfl rfl,by simpa using h1,fun k p q hp hq=>h2 (k+1) p q (by simpa using hp) (by simpa using hq)⟩
mutual
theorem same_eq:∀ a b:T,same a b=true↔a=b
  | .mk k f v l,.mk k' f' v' l'=>by
    rw [same]
    simp only [Bool.and_eq_true,decide_eq_true_eq,sameL_eq l l',T.mk.injEq,and_assoc]
theorem sameL_eq:∀ a b:List T,sameL a b=true↔a=b
  | [],[]=>by simp [sameL]
  | [],_::_=>by simp [sameL]
  | _::_,[]=>by simp [sameL]
  | p::l,q::l'=>by rw [sameL,Bool.and_eq_true,same_eq p q,sameL_eq l l',List.cons.injEq]
end
end Pd
end Go.Proofs.YtaojbkphcnailaaDoor
namespace Go.Proofs.YtaojbkphcnailaaDoor
open Go.Sx
set_option maxRecDepth 20000
set_option linter.unusedVariables false
namespace Po
inductive T where
  | mk (k:Int) (p:Pd.T) (f v:Int) (l:List T)
def T.k:T→Int | .mk k _ _ _ _=>k
def T.p:T→Pd.T | .mk _ p _ _ _=>p
def T.f:T→Int | .mk _ _ f _ _=>f
def T.v:T→Int | .mk _ _ _ v _=>v
def T.l:T→List T | .mk _ _ _ _ l=>l
mutual
def tot:T→Nat
  | .mk _ p _ _ l=>1+Pd.size p+totL l
def totL:List T→Nat
  | []=>0
  | x::l=>tot x+totL l
end
mutual
def same:T→T→Bool
  | .mk k p f v l,.mk k' p' f' v' l'=>decide (k=k')&&decide (f=f')&&decide (v=v')&&Pd.same p p'&&sameL l l'
def sameL:List T→List T→Bool
  | [],[]=>true
  | x::l,y::l'=>same x y&&sameL l l'
  | _,_=>false
end
def noneP:Pd.T:=.mk 0 0 0 []
def none (p:Pd.T):Bool:=Pd.same p noneP
def shape (k:Int) (p:Pd.T) (f v:Int) (n:Nat):Bool :=
  decide (k=1∧Pd.right p=true∧(f=0∧v=0)∧n=0∨k=2∧none p=true∧(0≤f∧f≤4)∧(0≤v∧v≤Pd.top f)∧n=0∨(k=3∨k=4)∧none p=true∧(f=0∧v=0)∧2≤n∧n≤8∨k=5∧Pd.right p=true∧(f=0∧v=0)∧n=2)
mutual
def fits:T→Bool
  | .mk k p f v l=>shape k p f v l.length&&fitsL l
def fitsL:List T→Bool
  | []=>true
  | x::l=>fits x&&fitsL l
end
theorem tot_mk (k:Int) (p:Pd.T) (f v:Int) (l:List T):tot (.mk k p f v l)=1+Pd.size p+totL l:=by rw [tot]
theorem tot_pos:∀ x:T,1≤tot x
  | .mk k p f v l=>by rw [tot];omega
theorem tot_lt {k:Int} {q:Pd.T} {f v:Int} {l:List T} {x:T} (h:x∈l):tot x<tot (.mk k q f v l):=by
  have:tot x≤totL l:=by
    induction l with
    | nil=>cases h
    | cons y l ih =>
      rw [totL]
      rcases List.mem_cons.1 h with rfl | h
      · omega
      · have:=ih h;omega
  rw [tot];omega
theorem length_le (l:List T):l.length≤totL l:=by
  induction l with
  | nil=>simp [totL]
  | cons p l ih=>have:=tot_pos p;rw [totL,List.length_cons];omega
theorem sameL_iff:∀ (a b:List T),sameL a b=true↔a.length=b.length∧∀ (k:Nat) (x y:T),a[k]?=some x→b[k]?=some y→same x y=true
  | [],[]=>by simp [sameL]
  | [],_::_=>by simp [sameL]
  | _::_,[]=>by simp [sameL]
  | x::a,y::b=>by
    simp only [sameL,Bool.and_eq_true,sameL_iff a b]
    constructor
    · rintro ⟨h1,h2,h3⟩
      refine ⟨by simp [h2],fun k p q hp hq=>?_⟩
      cases k with
      | zero=>simp at hp hq;subst hp hq;exact h1
      | succ k=>exact h3 k p q (by simpa using hp) (by simpa using hq)
    · rintro ⟨h1,h2⟩
      exact ⟨h2 0 x y rfl rfl,by simpa using h1,fun k p q hp hq=>h2 (k+1) p q (by simpa using hp) (by simpa using hq)⟩
mutual
theorem same_eq:∀ a b:T,same a b=true↔a=b
  | .mk k p f v l,.mk k' p' f' v' l'=>by
    rw [same]
    simp only [Bool.and_eq_true,decide_eq_true_eq,sameL_eq l l',Pd.same_eq,T.mk.injEq]
    exact ⟨fun ⟨⟨⟨⟨h1,h2⟩,h3⟩,h4⟩,h5⟩=>⟨h1,h4,h2,h3,h5⟩,fun ⟨h1,h4,h2,h3,h5⟩=>⟨⟨⟨⟨h1,h2⟩,h3⟩,h4⟩,h5⟩⟩
theorem sameL_eq:∀ a b:List T,sameL a b=true↔a=b
  | [],[]=>by simp [sameL]
  | [],_::_=>by simp [sameL]
  | _::_,[]=>by simp [sameL]
  | p::l,q::l'=>by rw [sameL,Bool.and_eq_true,same_eq p q,sameL_eq l l',List.cons.injEq]
end
end Po
end Go.Proofs.YtaojbkphcnailaaDoor
