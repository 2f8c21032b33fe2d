import Derived.Test.YtmehinfgdcmmjaaGreatSxC
namespace Go.Proofs.YtmehinfgdcmmjaaGreat
open Go.Sx
set_option maxRecDepth 20000
set_option linter.unusedVariables false
namespace Pd
inductive T where
 | mk (k f v:Int) (l:List T)
def T.k:T→Int | .mk k _ _ _=>k
def T.f:T→Int | .mk _ f _ _=>f
def T.v:T→Int | .mk _ _ v _=>v
def T.l:T→List T | .mk _ _ _ l=>l
mutual
def size:T→Nat
 | .mk _ _ _ l=>1+sizeL l
def sizeL:List T→Nat
 | []=>0
 | p::l=>size p+sizeL l
end
mutual
def deep:T→Nat
 | .mk _ _ _ l=>1+deepL l
def deepL:List T→Nat
 | []=>0
 | p::l=>max (deep p) (deepL l)
end
mutual
def same:T→T→Bool
 | .mk k f v l,.mk k' f' v' l'=>decide (k=k')&&decide (f=f')&&decide (v=v')&&sameL l l'
def sameL:List T→List T→Bool
 | [],[]=>true
 | p::l,q::l'=>same p q&&sameL l l'
 | _,_=>false
end
def top (f:Int):Int:=if f=4∨f=5 then 7 else if f=2 then 15 else if f=0∨f=1∨f=3 then 255 else 0
def shape (k f v:Int) (n:Nat):Bool :=
 decide (k=3∧(0≤f∧f≤5)∧(0≤v∧v≤top f)∧n=0∨(k=1∨k=2)∧f=0∧v=0∧n=0∨k=4∧f=0∧v=0∧n=1∨(k=5∨k=6)∧f=0∧v=0∧2≤n∧n≤8)
mutual
def fits:T→Bool
 | .mk k f v l=>shape k f v l.length&&fitsL l
def fitsL:List T→Bool
 | []=>true
 | p::l=>fits p&&fitsL l
end
def right (p:T):Bool:=fits p&&(decide (size p≤64)&&decide (deep p≤8))
structure At where
 sw:Int
 port:Int
 p0:Int
 p1:Int
 p2:Int
 p3:Int
def get (f:Int) (x:At):Int:=if f=0 then x.p0 else if f=1 then x.p1 else if f=2 then x.p2 else if f=3 then x.p3 else if f=4 then x.port else if f=5 then x.sw else -1
mutual
def hits (x:At):T→Bool
 | .mk k f v l=>if k=1 then true else if k=3 then decide ((0≤f∧f≤5)∧get f x=v) else if k=4 then (match l with | []=>false | _::_=>!hits1 x l) else if k=5 then hitsAll x l else if k=6 then !hitsNone x l else false
def hits1 (x:At):List T→Bool
 | []=>false
 | p::_=>hits x p
def hitsAll (x:At):List T→Bool
 | []=>true
 | p::l=>hits x p&&hitsAll x l
def hitsNone (x:At):List T→Bool
 | []=>true
 | p::l=>!hits x p&&hitsNone x l
end
theorem sizeL_append (a b:List T):sizeL (a++b)=sizeL a+sizeL b:=by
 induction a with
 | nil=>simp [sizeL]
 | cons p a ih=>simp only [List.cons_append,sizeL,ih];omega
theorem sizeL_take {l:List T} {k:Nat} (h:k<l.length):sizeL (l.take (k+1))=sizeL (l.take k)+size l[k]:=by
 rw [List.take_add_one,List.getElem?_eq_getElem h,sizeL_append]
 simp [sizeL]
theorem size_pos:∀ p:T,1≤size p
 | .mk _ _ _ l=>by rw [size];omega
theorem sizeL_le {l:List T}:∀ {k:Nat},sizeL (l.take k)≤sizeL l:=fun {k}=>by
 have:=sizeL_append (l.take k) (l.drop k)
 rw [List.take_append_drop] at this
 omega
theorem size_lt {k f v:Int} {l:List T} {p:T} (h:p∈l):size p<size (.mk k f v l):=by
 have:size p≤sizeL l:=by
  induction l with
  | nil=>cases h
  | cons q l ih =>
   rw [sizeL]
   rcases List.mem_cons.1 h with rfl | h
   ·omega
   ·have:=ih h;omega
 rw [size];omega
theorem length_le (l:List T):l.length≤sizeL l:=by
 induction l with
 | nil=>simp [sizeL]
 | cons p l ih=>have:=size_pos p;rw [sizeL,List.length_cons];omega
theorem deepL_append (a b:List T):deepL (a++b)=max (deepL a) (deepL b):=by
 induction a with
 | nil=>simp [deepL]
 | cons p a ih=>simp only [List.cons_append,deepL,ih];omega
theorem deepL_take {l:List T} {k:Nat} (h:k<l.length):deepL (l.take (k+1))=max (deepL (l.take k)) (deep l[k]):=by
 rw [List.take_add_one,List.getElem?_eq_getElem h,deepL_append]
 simp [deepL]
mutual
theorem deep_size:∀ p:T,deep p≤size p
 | .mk _ _ _ l=>by have:=deepL_size l;rw [deep,size];omega
theorem deepL_size:∀ l:List T,deepL l≤sizeL l
 | []=>by simp [deepL]
 | p::l=>by have:=deep_size p;have:=deepL_size l;rw [deepL,sizeL];omega
end
theorem fitsL_iff (l:List T):fitsL l=true↔∀ p∈l,fits p=true:=by
 induction l with
 | nil=>simp [fitsL]
 | cons p l ih=>simp only [fitsL,Bool.and_eq_true,ih,List.mem_cons,forall_eq_or_imp]
theorem sameL_iff:∀ (a b:List T),sameL a b=true↔a.length=b.length∧∀ (k:Nat) (x y:T),a[k]?=some x→b[k]?=some y→same x y=true
 | [],[]=>by simp [sameL]
 | [],_::_=>by simp [sameL]
 | _::_,[]=>by simp [sameL]
 | x::a,y::b=>by
  simp only [sameL,Bool.and_eq_true,sameL_iff a b]
  constructor
  ·rintro ⟨h1,h2,h3⟩
   refine ⟨by simp [h2],fun k p q hp hq=>?_⟩
   cases k with
   | zero=>simp at hp hq;subst hp hq;exact h1
   | succ k=>exact h3 k p q (by simpa using hp) (by simpa using hq)
  ·rintro ⟨h1,h2⟩
   exact ⟨h2 0 x y rfl rfl,by simpa using h1,fun k p q hp hq=>h2 (k+1) p q (by simpa using hp) (by simpa using hq)⟩
mutual
theorem same_eq:∀ a b:T,same a b=true↔a=b
 | .mk k f v l,.mk k' f' v' l'=>by
  rw [same]
  simp only [Bool.and_eq_true,decide_eq_true_eq,sameL_eq l l',T.mk.injEq,and_assoc]
theorem sameL_eq:∀ a b:List T,sameL a b=true↔a=b
 | [],[]=>by simp [sameL]
 | [],_::_=>by simp [sameL]
 | _::_,[]=>by simp [sameL]
 | p::l,q::l'=>by rw [sameL,Bool.and_eq_true,same_eq p q,sameL_eq l l',List.cons.injEq]
end
theorem hitsAll_iff (x:At) (l:List T):hitsAll x l=true↔∀ p∈l,hits x p=true:=by
 induction l with
 | nil=>simp [hitsAll]
 | cons p l ih=>simp only [hitsAll,Bool.and_eq_true,ih,List.mem_cons,forall_eq_or_imp]
theorem hitsNone_iff (x:At) (l:List T):hitsNone x l=true↔∀ p∈l,hits x p=false:=by
 induction l with
 | nil=>simp [hitsNone]
 | cons p l ih=>simp only [hitsNone,Bool.and_eq_true,ih,List.mem_cons,forall_eq_or_imp,Bool.not_eq_true']
end Pd
open Go.Sx
set_option maxRecDepth 20000
set_option linter.unusedVariables false
namespace Po
inductive T where
 | mk (k:Int) (p:Pd.T) (f v:Int) (l:List T)
def T.k:T→Int | .mk k _ _ _ _=>k
def T.p:T→Pd.T | .mk _ p _ _ _=>p
def T.f:T→Int | .mk _ _ f _ _=>f
def T.v:T→Int | .mk _ _ _ v _=>v
def T.l:T→List T | .mk _ _ _ _ l=>l
mutual
def tot:T→Nat
 | .mk _ p _ _ l=>1+Pd.size p+totL l
def totL:List T→Nat
 | []=>0
 | x::l=>tot x+totL l
end
mutual
def size:T→Nat
 | .mk k p _ _ l=>1+(if k=2∨k=3∨k=4 then 0 else Pd.size p)+sizeL l
def sizeL:List T→Nat
 | []=>0
 | x::l=>size x+sizeL l
end
mutual
def deep:T→Nat
 | .mk _ _ _ _ l=>1+deepL l
def deepL:List T→Nat
 | []=>0
 | x::l=>max (deep x) (deepL l)
end
mutual
def wide:T→Nat
 | .mk k _ _ _ l=>if k=3 then wideS 1 l else if k=4 then wideU 0 l else if k=5 then wideI 0 l else 1
def wideS (n:Nat):List T→Nat
 | []=>n
 | x::l=>wideS (min (n*wide x) 1000) l
def wideU (n:Nat):List T→Nat
 | []=>n
 | x::l=>wideU (min (n+wide x) 1000) l
def wideI (n:Nat):List T→Nat
 | []=>n
 | x::l=>wideI (max n (wide x)) l
end
def noneP:Pd.T:=.mk 0 0 0 []
def none (p:Pd.T):Bool:=Pd.same p noneP
def shape (k:Int) (p:Pd.T) (f v:Int) (n:Nat):Bool :=
 decide (k=1∧Pd.right p=true∧(f=0∧v=0)∧n=0∨k=2∧none p=true∧(0≤f∧f≤4)∧(0≤v∧v≤Pd.top f)∧n=0∨(k=3∨k=4)∧none p=true∧(f=0∧v=0)∧2≤n∧n≤8∨k=5∧Pd.right p=true∧(f=0∧v=0)∧n=2)
mutual
def fits:T→Bool
 | .mk k p f v l=>shape k p f v l.length&&fitsL l
def fitsL:List T→Bool
 | []=>true
 | x::l=>fits x&&fitsL l
end
def right (x:T):Bool:=fits x&&(decide (deep x≤8)&&(decide (size x≤64)&&decide (wide x≤64)))
theorem tot_mk (k:Int) (p:Pd.T) (f v:Int) (l:List T):tot (.mk k p f v l)=1+Pd.size p+totL l:=by rw [tot]
theorem tot_pos:∀ x:T,1≤tot x
 | .mk k p f v l=>by rw [tot];omega
theorem totL_append (a b:List T):totL (a++b)=totL a+totL b:=by
 induction a with
 | nil=>simp [totL]
 | cons p a ih=>simp only [List.cons_append,totL,ih];omega
theorem totL_take {l:List T} {k:Nat} (h:k<l.length):totL (l.take (k+1))=totL (l.take k)+tot l[k]:=by
 rw [List.take_add_one,List.getElem?_eq_getElem h,totL_append]
 simp [totL]
theorem totL_le {l:List T}:∀ {k:Nat},totL (l.take k)≤totL l:=fun {k}=>by
 have:=totL_append (l.take k) (l.drop k)
 rw [List.take_append_drop] at this
 omega
theorem tot_lt {k:Int} {q:Pd.T} {f v:Int} {l:List T} {x:T} (h:x∈l):tot x<tot (.mk k q f v l):=by
 have:tot x≤totL l:=by
  induction l with
  | nil=>cases h
  | cons y l ih =>
   rw [totL]
   rcases List.mem_cons.1 h with rfl | h
   ·omega
   ·have:=ih h;omega
 rw [tot];omega
theorem length_le (l:List T):l.length≤totL l:=by
 induction l with
 | nil=>simp [totL]
 | cons p l ih=>have:=tot_pos p;rw [totL,List.length_cons];omega
theorem sizeL_append (a b:List T):sizeL (a++b)=sizeL a+sizeL b:=by
 induction a with
 | nil=>simp [sizeL]
 | cons p a ih=>simp only [List.cons_append,sizeL,ih];omega
theorem sizeL_take {l:List T} {k:Nat} (h:k<l.length):sizeL (l.take (k+1))=sizeL (l.take k)+size l[k]:=by
 rw [List.take_add_one,List.getElem?_eq_getElem h,sizeL_append]
 simp [sizeL]
mutual
theorem size_tot:∀ x:T,size x≤tot x
 | .mk k p f v l=>by have:=sizeL_tot l;rw [size,tot];split<;>omega
theorem sizeL_tot:∀ l:List T,sizeL l≤totL l
 | []=>by simp [sizeL]
 | x::l=>by have:=size_tot x;have:=sizeL_tot l;rw [sizeL,totL];omega
end
theorem sizeL_take_le {l:List T} {k:Nat}:sizeL (l.take k)≤totL l:=Nat.le_trans (sizeL_tot _) totL_le
theorem deepL_append (a b:List T):deepL (a++b)=max (deepL a) (deepL b):=by
 induction a with
 | nil=>simp [deepL]
 | cons p a ih=>simp only [List.cons_append,deepL,ih];omega
theorem deepL_take {l:List T} {k:Nat} (h:k<l.length):deepL (l.take (k+1))=max (deepL (l.take k)) (deep l[k]):=by
 rw [List.take_add_one,List.getElem?_eq_getElem h,deepL_append]
 simp [deepL]
mutual
theorem deep_tot:∀ x:T,deep x≤tot x
 | .mk k p f v l=>by have:=deepL_tot l;rw [deep,tot];omega
theorem deepL_tot:∀ l:List T,deepL l≤totL l
 | []=>by simp [deepL]
 | x::l=>by have:=deep_tot x;have:=deepL_tot l;rw [deepL,totL];omega
end
theorem deepL_take_le {l:List T} {k:Nat}:deepL (l.take k)≤totL l:=Nat.le_trans (deepL_tot _) totL_le
theorem wideS_append (a b:List T):∀ n,wideS n (a++b)=wideS (wideS n a) b:=by
 induction a with
 | nil=>intro n;rfl
 | cons x a ih=>intro n;rw [List.cons_append,wideS,wideS,ih]
theorem wideU_append (a b:List T):∀ n,wideU n (a++b)=wideU (wideU n a) b:=by
 induction a with
 | nil=>intro n;rfl
 | cons x a ih=>intro n;rw [List.cons_append,wideU,wideU,ih]
theorem wideI_append (a b:List T):∀ n,wideI n (a++b)=wideI (wideI n a) b:=by
 induction a with
 | nil=>intro n;rfl
 | cons x a ih=>intro n;rw [List.cons_append,wideI,wideI,ih]
theorem wideS_take (n:Nat) {l:List T} {k:Nat} (h:k<l.length):wideS n (l.take (k+1))=min (wideS n (l.take k)*wide l[k]) 1000:=by
 rw [List.take_add_one,List.getElem?_eq_getElem h,wideS_append]
 rfl
theorem wideU_take (n:Nat) {l:List T} {k:Nat} (h:k<l.length):wideU n (l.take (k+1))=min (wideU n (l.take k)+wide l[k]) 1000:=by
 rw [List.take_add_one,List.getElem?_eq_getElem h,wideU_append]
 rfl
theorem wideI_take (n:Nat) {l:List T} {k:Nat} (h:k<l.length):wideI n (l.take (k+1))=max (wideI n (l.take k)) (wide l[k]):=by
 rw [List.take_add_one,List.getElem?_eq_getElem h,wideI_append]
 rfl
mutual
theorem wide_le:∀ x:T,wide x≤1000
 | .mk k p f v l=>by
  rw [wide]
  split
  ·exact wideS_le l 1 (by decide)
  split
  ·exact wideU_le l 0 (by decide)
  split
  ·exact wideI_le l 0 (by decide)
  ·decide
theorem wideS_le:∀ (l:List T) (n:Nat),n≤1000→wideS n l≤1000
 | [],n,h=>by rw [wideS];exact h
 | x::l,n,h=>by rw [wideS];exact wideS_le l _ (Nat.min_le_right _ _)
theorem wideU_le:∀ (l:List T) (n:Nat),n≤1000→wideU n l≤1000
 | [],n,h=>by rw [wideU];exact h
 | x::l,n,h=>by rw [wideU];exact wideU_le l _ (Nat.min_le_right _ _)
theorem wideI_le:∀ (l:List T) (n:Nat),n≤1000→wideI n l≤1000
 | [],n,h=>by rw [wideI];exact h
 | x::l,n,h=>by have:=wide_le x;rw [wideI];exact wideI_le l _ (by omega)
end
theorem fitsL_iff (l:List T):fitsL l=true↔∀ p∈l,fits p=true:=by
 induction l with
 | nil=>simp [fitsL]
 | cons p l ih=>simp only [fitsL,Bool.and_eq_true,ih,List.mem_cons,forall_eq_or_imp]
theorem fits_mk {k:Int} {p:Pd.T} {f v:Int} {l:List T} (h:fits (.mk k p f v l)=true):(k=1∧Pd.right p=true∧(f=0∧v=0)∧l.length=0∨k=2∧none p=true∧(0≤f∧f≤4)∧(0≤v∧v≤Pd.top f)∧l.length=0∨(k=3∨k=4)∧none p=true∧(f=0∧v=0)∧2≤l.length∧l.length≤8∨k=5∧Pd.right p=true∧(f=0∧v=0)∧l.length=2)∧∀ x∈l,fits x=true:=by
 rw [fits,Bool.and_eq_true,fitsL_iff] at h
 have h1:=h.1
 unfold shape at h1
 rw [decide_eq_true_eq] at h1
 exact ⟨h1,h.2⟩
end Po
open Go.Sx
set_option maxRecDepth 20000
set_option linter.unusedVariables false
namespace Po
structure S where
 port:Int
 p0:Int
 p1:Int
 p2:Int
 p3:Int
deriving DecidableEq
def S.at_ (sw:Int) (s:S):Pd.At:=⟨sw,s.port,s.p0,s.p1,s.p2,s.p3⟩
def S.av (s:S):List AV:=[.int .i64 s.port,.int .i64 s.p0,.int .i64 s.p1,.int .i64 s.p2,.int .i64 s.p3]
def S.vs (s:S):List Value:=[.int .i64 s.port,.int .i64 s.p0,.int .i64 s.p1,.int .i64 s.p2,.int .i64 s.p3]
def S.key (s:S):Value:=.agg #[.int .i64 s.port,.int .i64 s.p0,.int .i64 s.p1,.int .i64 s.p2,.int .i64 s.p3]
theorem S.key_inj {x y:S} (h:x.key=y.key):x=y:=by
 obtain ⟨a,b,c,d,e⟩:=x
 obtain ⟨a',b',c',d',e'⟩:=y
 unfold S.key at h
 injection h with h
 simp at h
 obtain ⟨rfl,rfl,rfl,rfl,rfl⟩:=h
 rfl
theorem S.den (s:S):denL s.av=s.vs:=rfl
def ptop (f:Int):Int:=if f=2 then 15 else if f=0∨f=1∨f=3 then 255 else 0
def withS (f v:Int) (s:S):S :=
 if (0≤f∧f<4)∧0≤v∧v≤ptop f then (if f=0 then { s with p0:=v } else if f=1 then { s with p1:=v } else if f=2 then { s with p2:=v } else { s with p3:=v }) else s
def put (f v:Int) (s:S):S:=if f=4 then { s with port:=v } else withS f v s
def cmpI (a b:Int):Int:=if a<b then -1 else if b<a then 1 else 0
def cmpS (x y:S):Int :=
 if cmpI x.port y.port≠0 then cmpI x.port y.port else if cmpI x.p0 y.p0≠0 then cmpI x.p0 y.p0 else if cmpI x.p1 y.p1≠0 then cmpI x.p1 y.p1 else if cmpI x.p2 y.p2≠0 then cmpI x.p2 y.p2 else cmpI x.p3 y.p3
def ahead (x y:S):Prop:=x.port<y.port∨x.port=y.port∧(x.p0<y.p0∨x.p0=y.p0∧(x.p1<y.p1∨x.p1=y.p1∧(x.p2<y.p2∨x.p2=y.p2∧x.p3<y.p3)))
instance (x y:S):Decidable (ahead x y):=by unfold ahead;infer_instance
theorem cmpI_lt (a b:Int):cmpI a b<0↔a<b:=by unfold cmpI;split<;>first | omega | (split<;>omega)
theorem cmpI_0 (a b:Int):cmpI a b=0↔a=b:=by unfold cmpI;split<;>first | omega | (split<;>omega)
theorem cmpS_lt (x y:S):cmpS x y<0↔ahead x y:=by
 unfold cmpS ahead
 have h1:=cmpI_lt x.port y.port
 have h2:=cmpI_0 x.port y.port
 have h3:=cmpI_lt x.p0 y.p0
 have h4:=cmpI_0 x.p0 y.p0
 have h5:=cmpI_lt x.p1 y.p1
 have h6:=cmpI_0 x.p1 y.p1
 have h7:=cmpI_lt x.p2 y.p2
 have h8:=cmpI_0 x.p2 y.p2
 have h9:=cmpI_lt x.p3 y.p3
 repeat' split
 all_goals omega
theorem ahead_irrefl (x:S):¬ ahead x x:=by unfold ahead;omega
theorem ahead_trans {x y z:S} (h:ahead x y) (k:ahead y z):ahead x z:=by unfold ahead at *;omega
theorem ahead_or {x y:S} (h:¬ ahead x y) (k:¬ ahead y x):x=y:=by
 obtain ⟨a,b,c,d,e⟩:=x
 obtain ⟨a',b',c',d',e'⟩:=y
 unfold ahead at *
 simp only at h k
 simp only [S.mk.injEq]
 omega
abbrev Rising (l:List S):Prop:=l.Pairwise ahead
theorem rising_eq:∀ {a b:List S},Rising a→Rising b→(∀ t,t∈a↔t∈b)→a=b
 | [],[],_,_,_=>rfl
 | [],y::b,_,_,h=>by have:=(h y).2 (by simp);cases this
 | x::a,[],_,_,h=>by have:=(h x).1 (by simp);cases this
 | x::a,y::b,ha,hb,h=>by
  have ha':=List.pairwise_cons.1 ha
  have hb':=List.pairwise_cons.1 hb
  have hxy:x=y:=by
   have h1:=(h x).1 (by simp)
   have h2:=(h y).2 (by simp)
   rcases List.mem_cons.1 h1 with h1 | h1
   ·exact h1
   ·rcases List.mem_cons.1 h2 with h2 | h2
    ·exact h2.symm
    ·exact absurd (ahead_trans (hb'.1 x h1) (ha'.1 y h2)) (ahead_irrefl y)
  subst hxy
  congr 1
  refine rising_eq ha'.2 hb'.2 fun t=>?_
  have ht:=h t
  simp only [List.mem_cons] at ht
  constructor
  ·intro hta
   rcases ht.1 (.inr hta) with rfl | h1
   ·exact absurd (ha'.1 t hta) (ahead_irrefl t)
   ·exact h1
  ·intro htb
   rcases ht.2 (.inr htb) with rfl | h1
   ·exact absurd (hb'.1 t htb) (ahead_irrefl t)
   ·exact h1
def ins (s:S):List S→List S
 | []=>[s]
 | x::l=>if x=s then x::l else if ahead s x then s::x::l else x::ins s l
theorem mem_ins (s t:S) (l:List S):t∈ins s l↔t=s∨t∈l:=by
 induction l with
 | nil=>simp [ins]
 | cons x l ih =>
  unfold ins
  split
  ·rename_i h
   subst h
   simp
  ·split
   ·simp
   ·simp only [List.mem_cons,ih]
    constructor
    iterate 2
     ·rintro (h | h | h)<;>simp [h]
theorem ins_rising (s:S) {l:List S} (h:Rising l):Rising (ins s l):=by
 induction l with
 | nil=>simp [ins]
 | cons x l ih =>
  have h':=List.pairwise_cons.1 h
  unfold ins
  split
  ·exact h
  ·rename_i hne
   split
   ·rename_i ha
    refine List.pairwise_cons.2 ⟨fun t ht=>?_,h⟩
    rcases List.mem_cons.1 ht with rfl | ht
    ·exact ha
    ·exact ahead_trans ha (h'.1 t ht)
   ·rename_i ha
    refine List.pairwise_cons.2 ⟨fun t ht=>?_,ih h'.2⟩
    rcases (mem_ins s t l).1 ht with rfl | ht
    ·exact Classical.byContradiction fun hn=>hne (ahead_or hn ha)
    ·exact h'.1 t ht
def both (a b:List S):List S:=b.foldl (fun acc s=>ins s acc) a
theorem mem_both (t:S):∀ (b a:List S),t∈both a b↔t∈a∨t∈b
 | [],a=>by simp [both]
 | x::b,a=>by
  have:=mem_both t b (ins x a)
  unfold both at *
  rw [List.foldl_cons,this,mem_ins,List.mem_cons]
  constructor
  ·rintro ((h | h) | h)<;>simp [h]
  ·rintro (h | h | h)<;>simp [h]
theorem both_rising:∀ (b:List S) {a:List S},Rising a→Rising (both a b)
 | [],a,h=>h
 | x::b,a,h=>both_rising b (ins_rising x h)
mutual
def runs (sw:Int):T→S→List S
 | .mk k p f v l,s=>if k=1 then (if Pd.hits (s.at_ sw) p=true then [s] else []) else if k=2 then [put f v s] else if k=3 then runsQ sw l [s] else if k=4 then runsU sw l s [] else if k=5 then (if Pd.hits (s.at_ sw) p=true then runsA sw l s else runsB sw l s) else []
def runsQ (sw:Int):List T→List S→List S
 | [],out=>out
 | y::l,out=>runsQ sw l (out.foldl (fun next t=>both next (runs sw y t)) [])
def runsU (sw:Int):List T→S→List S→List S
 | [],_,out=>out
 | y::l,s,out=>runsU sw l s (both out (runs sw y s))
def runsA (sw:Int):List T→S→List S
 | [],_=>[]
 | y::_,s=>runs sw y s
def runsB (sw:Int):List T→S→List S
 | [],_=>[]
 | _::l,s=>runsA sw l s
end
def thenS (sw:Int) (y:T) (out:List S):List S:=out.foldl (fun next t=>both next (runs sw y t)) []
theorem mem_fold (sw:Int) (y:T) (t:S):∀ (out a:List S),t∈out.foldl (fun next t=>both next (runs sw y t)) a↔t∈a∨∃ s∈out,t∈runs sw y s
 | [],a=>by simp
 | x::out,a=>by
  rw [List.foldl_cons,mem_fold sw y t out,mem_both]
  simp only [List.mem_cons,exists_eq_or_imp,or_assoc]
theorem mem_then (sw:Int) (y:T) (t:S) (out:List S):t∈thenS sw y out↔∃ s∈out,t∈runs sw y s:=by unfold thenS;rw [mem_fold];simp
theorem fold_rising (sw:Int) (y:T):∀ (out:List S) {a:List S},Rising a→Rising (out.foldl (fun next t=>both next (runs sw y t)) a)
 | [],a,h=>h
 | x::out,a,h=>by rw [List.foldl_cons];exact fold_rising sw y out (both_rising _ h)
theorem then_rising (sw:Int) (y:T) (out:List S):Rising (thenS sw y out):=fold_rising sw y out List.Pairwise.nil
theorem runsQ_append (sw:Int) (a b:List T):∀ out,runsQ sw (a++b) out=runsQ sw b (runsQ sw a out):=by
 induction a with
 | nil=>intro out;simp [runsQ]
 | cons y a ih=>intro out;rw [List.cons_append,runsQ,runsQ,ih]
theorem runsQ_one (sw:Int) (y:T) (out:List S):runsQ sw [y] out=thenS sw y out:=by rw [runsQ,runsQ];rfl
theorem runsQ_take (sw:Int) {l:List T} {k:Nat} (h:k<l.length) (out:List S):runsQ sw (l.take (k+1)) out=thenS sw l[k] (runsQ sw (l.take k) out):=by
 rw [List.take_add_one,List.getElem?_eq_getElem h,Option.toList_some,runsQ_append,runsQ_one]
theorem runsU_append (sw:Int) (s:S) (a b:List T):∀ out,runsU sw (a++b) s out=runsU sw b s (runsU sw a s out):=by
 induction a with
 | nil=>intro out;simp [runsU]
 | cons y a ih=>intro out;rw [List.cons_append,runsU,runsU,ih]
theorem runsU_take (sw:Int) {l:List T} {k:Nat} (h:k<l.length) (s:S) (out:List S):runsU sw (l.take (k+1)) s out=both (runsU sw (l.take k) s out) (runs sw l[k] s):=by
 rw [List.take_add_one,List.getElem?_eq_getElem h,Option.toList_some,runsU_append,runsU,runsU]
theorem mem_runsU (sw:Int) (s t:S):∀ (l:List T) (out:List S),t∈runsU sw l s out↔t∈out∨∃ y∈l,t∈runs sw y s
 | [],out=>by simp [runsU]
 | y::l,out=>by
  rw [runsU,mem_runsU sw s t l,mem_both]
  simp only [List.mem_cons,exists_eq_or_imp,or_assoc]
theorem runsQ_rising (sw:Int):∀ (l:List T) {out:List S},Rising out→Rising (runsQ sw l out)
 | [],out,h=>by rw [runsQ];exact h
 | y::l,out,h=>by rw [runsQ];exact runsQ_rising sw l (then_rising sw y out)
theorem runsU_rising (sw:Int) (s:S):∀ (l:List T) {out:List S},Rising out→Rising (runsU sw l s out)
 | [],out,h=>by rw [runsU];exact h
 | y::l,out,h=>by rw [runsU];exact runsU_rising sw s l (both_rising _ h)
theorem runs_mk (sw k:Int) (p:Pd.T) (f v:Int) (l:List T) (s:S):runs sw (.mk k p f v l) s=if k=1 then (if Pd.hits (s.at_ sw) p=true then [s] else []) else if k=2 then [put f v s] else if k=3 then runsQ sw l [s] else if k=4 then runsU sw l s [] else if k=5 then (if Pd.hits (s.at_ sw) p=true then runsA sw l s else runsB sw l s) else []:=by rw [runs]
theorem runs_rising (sw:Int) (s:S):∀ (n:Nat) (x:T),tot x≤n→Rising (runs sw x s)
 | 0,x,hn=>absurd (tot_pos x) (by omega)
 | n+1,⟨k,p,f,v,l⟩,hn=>by
  have ih:∀ y∈l,Rising (runs sw y s):=fun y hy=>runs_rising sw s n y (by have:=tot_lt (k:=k) (q:=p) (f:=f) (v:=v) hy;omega)
  rw [runs_mk]
  split
  ·split<;>simp
  split
  ·simp
  split
  ·exact runsQ_rising sw l (by simp)
  split
  ·exact runsU_rising sw s l List.Pairwise.nil
  split
  ·split
   ·cases l with
    | nil=>rw [runsA];exact List.Pairwise.nil
    | cons y l=>rw [runsA];exact ih y (by simp)
   ·match l with
    | []=>rw [runsB];exact List.Pairwise.nil
    | [a]=>rw [runsB,runsA];exact List.Pairwise.nil
    | a::y::l=>rw [runsB,runsA];exact ih y (by simp)
  ·exact List.Pairwise.nil
end Po
open Go.Sx
set_option maxRecDepth 20000
set_option linter.unusedVariables false
namespace Pd
mutual
def vals (f:Int):T→List Int
 | .mk k a v l=>(if k=3∧a=f then [v] else [])++valsL f l
def valsL (f:Int):List T→List Int
 | []=>[]
 | p::l=>vals f p++valsL f l
end
theorem valsL_append (f:Int) (a b:List T):valsL f (a++b)=valsL f a++valsL f b:=by
 induction a with
 | nil=>rfl
 | cons p a ih=>rw [List.cons_append,valsL,valsL,ih,List.append_assoc]
theorem valsL_take (f:Int) {l:List T} {k:Nat} (h:k<l.length):valsL f (l.take (k+1))=valsL f (l.take k)++vals f l[k]:=by
 rw [List.take_add_one,List.getElem?_eq_getElem h,valsL_append]
 congr 1
 show vals f l[k]++[]=_
 simp
mutual
theorem vals_len (f:Int):∀ p:T,(vals f p).length≤size p
 | .mk k a v l=>by
  have:=valsL_len f l
  rw [vals,size,List.length_append]
  split
  ·simp;omega
  ·simp;omega
theorem valsL_len (f:Int):∀ l:List T,(valsL f l).length≤sizeL l
 | []=>by simp [valsL]
 | p::l=>by have:=vals_len f p;have:=valsL_len f l;rw [valsL,sizeL,List.length_append];omega
end
mutual
theorem vals_top (f:Int):∀ p:T,fits p=true→∀ v∈vals f p,0≤v∧v≤top f
 | .mk k a w l,h,v,hv=>by
  rw [fits,Bool.and_eq_true] at h
  rw [vals,List.mem_append] at hv
  rcases hv with hv | hv
  ·split at hv
   ·rename_i hk
    obtain ⟨rfl,rfl⟩:=hk
    have h1:=h.1
    unfold shape at h1
    rw [decide_eq_true_eq] at h1
    rw [List.mem_singleton.1 hv]
    omega
   ·simp at hv
  ·exact valsL_top f l h.2 v hv
theorem valsL_top (f:Int):∀ l:List T,fitsL l=true→∀ v∈valsL f l,0≤v∧v≤top f
 | [],_,v,hv=>by simp [valsL] at hv
 | p::l,h,v,hv=>by
  rw [fitsL,Bool.and_eq_true] at h
  rw [valsL,List.mem_append] at hv
  rcases hv with hv | hv
  ·exact vals_top f p h.1 v hv
  ·exact valsL_top f l h.2 v hv
end
def once:List Int→List Int
 | []=>[]
 | [x]=>[x]
 | x::y::l=>if x=y then once (y::l) else x::once (y::l)
theorem once_mem:∀ (l:List Int) (v:Int),v∈once l↔v∈l
 | [],v=>by simp [once]
 | [x],v=>by simp [once]
 | x::y::l,v=>by
  rw [once]
  split
  ·rename_i h
   subst h
   rw [once_mem (x::l) v]
   simp
  ·rw [List.mem_cons,once_mem (y::l) v,List.mem_cons (b:=x)]
theorem once_rising:∀ l:List Int,l.Pairwise (·≤·)→(once l).Pairwise (·<·)
 | [],_=>by simp [once]
 | [x],_=>by simp [once]
 | x::y::l,h=>by
  rw [once]
  have h2:=List.pairwise_cons.1 h
  split
  ·exact once_rising (y::l) h2.2
  ·rename_i hne
   refine List.pairwise_cons.2 ⟨fun v hv=>?_,once_rising (y::l) h2.2⟩
   have hm:=(once_mem (y::l) v).1 hv
   have h3:=List.pairwise_cons.1 h2.2
   have h4:=h2.1 y (by simp)
   rcases List.mem_cons.1 hm with rfl | hm
   ·omega
   ·have:=h3.1 v hm;omega
theorem rising_eq:∀ a b:List Int,a.Pairwise (·<·)→b.Pairwise (·<·)→(∀ v,v∈a↔v∈b)→a=b
 | [],[],_,_,_=>rfl
 | [],y::b,_,_,h=>by have:=(h y).2 (by simp);simp at this
 | x::a,[],_,_,h=>by have:=(h x).1 (by simp);simp at this
 | x::a,y::b,ha,hb,h=>by
  have ha':=List.pairwise_cons.1 ha
  have hb':=List.pairwise_cons.1 hb
  have e:x=y:=by
   have h1:=(h x).1 (by simp)
   have h2:=(h y).2 (by simp)
   rcases List.mem_cons.1 h1 with h1 | h1
   ·exact h1
   ·rcases List.mem_cons.1 h2 with h2 | h2
    ·exact h2.symm
    ·have:=ha'.1 y h2;have:=hb'.1 x h1;omega
  subst e
  rw [rising_eq a b ha'.2 hb'.2 fun v=>⟨fun hv=>?_,fun hv=>?_⟩]
  ·have h1:=(h v).1 (List.mem_cons_of_mem _ hv)
   rcases List.mem_cons.1 h1 with h1 | h1
   ·have:=ha'.1 v hv;omega
   ·exact h1
  ·have h1:=(h v).2 (List.mem_cons_of_mem _ hv)
   rcases List.mem_cons.1 h1 with h1 | h1
   ·have:=hb'.1 v hv;omega
   ·exact h1
def values (f:Int) (p:T):List Int:=once ((vals f p).mergeSort fun x y=>decide (x≤y))
theorem values_mem (f:Int) (p:T) (v:Int):v∈values f p↔v∈vals f p:=by
 unfold values
 rw [once_mem]
 exact List.mem_mergeSort
theorem top_nonneg (f:Int):0≤top f:=by unfold top;split<;>first | omega | (split<;>first | omega | (split<;>omega))
mutual
theorem hits_alike (x y:At):∀ p:T,(∀ f,0≤f∧f≤5→∀ v∈vals f p,get f x≠get f y→get f x≠v∧get f y≠v)→hits x p=hits y p
 | .mk k a v l,h=>by
  have hl:∀ f,0≤f∧f≤5→∀ w∈valsL f l,get f x≠get f y→get f x≠w∧get f y≠w:=fun f hf w hw=>h f hf w (by rw [vals];exact List.mem_append_right _ hw)
  have e1:=hits_alike1 x y l hl
  have e5:=hits_alikeA x y l hl
  have e6:=hits_alikeN x y l hl
  rw [hits.eq_def,hits.eq_def]
  simp only
  rw [e5,e6,e1]
  have h3:k=3→decide ((0≤a∧a≤5)∧get a x=v)=decide ((0≤a∧a≤5)∧get a y=v):=fun hk=>by
   by_cases ha:0≤a∧a≤5
   ·have hv:=h a ha v (by rw [vals,if_pos ⟨hk,rfl⟩];simp)
    by_cases hne:get a x=get a y
    ·rw [hne]
    ·have:=hv hne
     simp [this.1,this.2]
   ·simp [ha]
  by_cases hk:k=3
  ·rw [h3 hk]
  ·simp only [if_neg hk]
theorem hits_alike1 (x y:At):∀ l:List T,(∀ f,0≤f∧f≤5→∀ v∈valsL f l,get f x≠get f y→get f x≠v∧get f y≠v)→hits1 x l=hits1 y l
 | [],_=>rfl
 | p::l,h=>by rw [hits1,hits1];exact hits_alike x y p fun f hf v hv=>h f hf v (by rw [valsL];exact List.mem_append_left _ hv)
theorem hits_alikeA (x y:At):∀ l:List T,(∀ f,0≤f∧f≤5→∀ v∈valsL f l,get f x≠get f y→get f x≠v∧get f y≠v)→hitsAll x l=hitsAll y l
 | [],_=>rfl
 | p::l,h=>by
  rw [hitsAll,hitsAll,hits_alike x y p fun f hf v hv=>h f hf v (by rw [valsL];exact List.mem_append_left _ hv),hits_alikeA x y l fun f hf v hv=>h f hf v (by rw [valsL];exact List.mem_append_right _ hv)]
theorem hits_alikeN (x y:At):∀ l:List T,(∀ f,0≤f∧f≤5→∀ v∈valsL f l,get f x≠get f y→get f x≠v∧get f y≠v)→hitsNone x l=hitsNone y l
 | [],_=>rfl
 | p::l,h=>by
  rw [hitsNone,hitsNone,hits_alike x y p fun f hf v hv=>h f hf v (by rw [valsL];exact List.mem_append_left _ hv),hits_alikeN x y l fun f hf v hv=>h f hf v (by rw [valsL];exact List.mem_append_right _ hv)]
end
end Pd
end Go.Proofs.YtmehinfgdcmmjaaGreat
