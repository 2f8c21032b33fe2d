/- A part of the proof. -/
import Derived.Test.YtmehinfgdcmmjaaGreatDoorTJ1
import Derived.Lib.ConvBytes
import Derived.Test.YtmehinfgdcmmjaaGreatDoorTSxC
import Derived.WideLaws
import Derived.Test.YtmehinfgdcmmjaaGreatDoorProg
namespace Go.Proofs.YtmehinfgdcmmjaaGreatDoor
open Go.Sx
set_option maxRecDepth 20000
set_option linter.unusedVariables false
namespace Po
inductive T where
  | mk (k:Int) (p:Pd.T) (f v:Int) (l:List T)
def T.k:T→Int | .mk k _ _ _ _=>k
def T.p:T→Pd.T | .mk _ p _ _ _=>p
def T.f:T→Int | .mk _ _ f _ _=>f
def T.v:T→Int | .mk _ _ _ v _=>v
def T.l:T→List T | .mk _ _ _ _ l=>l
mutual
def tot:T→Nat
  | .mk _ p _ _ l=>1+Pd.size p+totL l
def totL:List T→Nat
  | []=>0
  | x::l=>tot x+totL l
end
mutual
def size:T→Nat
  | .mk k p _ _ l=>1+(if k=2∨k=3∨k=4 then 0 else Pd.size p)+sizeL l
def sizeL:List T→Nat
  | []=>0
  | x::l=>size x+sizeL l
end
mutual
def deep:T→Nat
  | .mk _ _ _ _ l=>1+deepL l
def deepL:List T→Nat
  | []=>0
  | x::l=>max (deep x) (deepL l)
end
mutual
def wide:T→Nat
  | .mk k _ _ _ l=>if k=3 then wideS 1 l else if k=4 then wideU 0 l else if k=5 then wideI 0 l else 1
def wideS (n:Nat):List T→Nat
  | []=>n
  | x::l=>wideS (min (n*wide x) 1000) l
def wideU (n:Nat):List T→Nat
  | []=>n
  | x::l=>wideU (min (n+wide x) 1000) l
def wideI (n:Nat):List T→Nat
  | []=>n
  | x::l=>wideI (max n (wide x)) l
end
def noneP:Pd.T:=.mk 0 0 0 []
def none (p:Pd.T):Bool:=Pd.same p noneP
def shape (k:Int) (p:Pd.T) (f v:Int) (n:Nat):Bool :=
  decide (k=1∧Pd.right p=true∧(f=0∧v=0)∧n=0∨k=2∧none p=true∧(0≤f∧f≤4)∧(0≤v∧v≤Pd.top f)∧n=0∨(k=3∨k=4)∧none p=true∧(f=0∧v=0)∧2≤n∧n≤8∨k=5∧Pd.right p=true∧(f=0∧v=0)∧n=2)
mutual
def fits:T→Bool
  | .mk k p f v l=>shape k p f v l.length&&fitsL l
def fitsL:List T→Bool
  | []=>true
  | x::l=>fits x&&fitsL l
end
def right (x:T):Bool:=fits x&&(decide (deep x≤8)&&(decide (size x≤64)&&decide (wide x≤64)))
theorem tot_mk (k:Int) (p:Pd.T) (f v:Int) (l:List T):tot (.mk k p f v l)=1+Pd.size p+totL l:=by rw [tot]
theorem tot_pos:∀ x:T,1≤tot x
  | .mk k p f v l=>by rw [tot];omega
theorem totL_append (a b:List T):totL (a++b)=totL a+totL b:=by
  induction a with
  | nil=>simp [totL]
  | cons p a ih=>simp only [List.cons_append,totL,ih];omega
theorem totL_take {l:List T} {k:Nat} (h:k<l.length):totL (l.take (k+1))=totL (l.take k)+tot l[k]:=by
  rw [List.take_add_one,List.getElem?_eq_getElem h,totL_append]
  simp [totL]
theorem totL_le {l:List T}:∀ {k:Nat},totL (l.take k)≤totL l:=fun {k}=>by
  have:=totL_append (l.take k) (l.drop k)
  rw [List.take_append_drop] at this
  omega
theorem tot_lt {k:Int} {q:Pd.T} {f v:Int} {l:List T} {x:T} (h:x∈l):tot x<tot (.mk k q f v l):=by
  have:tot x≤totL l:=by
    induction l with
    | nil=>cases h
    | cons y l ih =>
      rw [totL]
      rcases List.mem_cons.1 h with rfl | h
      · omega
      · have:=ih h;omega
  rw [tot];omega
theorem length_le (l:List T):l.length≤totL l:=by
  induction l with
  | nil=>simp [totL]
  | cons p l ih=>have:=tot_pos p;rw [totL,List.length_cons];omega
theorem sizeL_append (a b:List T):sizeL (a++b)=sizeL a+sizeL b:=by
  induction a with
  | nil=>simp [sizeL]
  | cons p a ih=>simp only [List.cons_append,sizeL,ih];omega
theorem sizeL_take {l:List T} {k:Nat} (h:k<l.length):sizeL (l.take (k+1))=sizeL (l.take k)+size l[k]:=by
  rw [List.take_add_one,List.getElem?_eq_getElem h,sizeL_append]
  simp [sizeL]
mutual
theorem size_tot:∀ x:T,size x≤tot x
  | .mk k p f v l=>by have:=sizeL_tot l;rw [size,tot];split<;>omega
theorem sizeL_tot:∀ l:List T,sizeL l≤totL l
  | []=>by simp [sizeL]
  | x::l=>by have:=size_tot x;have:=sizeL_tot l;rw [sizeL,totL];omega
end
theorem sizeL_take_le {l:List T} {k:Nat}:sizeL (l.take k)≤totL l:=Nat.le_trans (sizeL_tot _) totL_le
theorem deepL_append (a b:List T):deepL (a++b)=max (deepL a) (deepL b):=by
  induction a with
  | nil=>simp [deepL]
  | cons p a ih=>simp only [List.cons_append,deepL,ih];omega
theorem deepL_take {l:List T} {k:Nat} (h:k<l.length):deepL (l.take (k+1))=max (deepL (l.take k)) (deep l[k]):=by
  rw [List.take_add_one,List.getElem?_eq_getElem h,deepL_append]
  simp [deepL]
mutual
theorem deep_tot:∀ x:T,deep x≤tot x
  | .mk k p f v l=>by have:=deepL_tot l;rw [deep,tot];omega
theorem deepL_tot:∀ l:List T,deepL l≤totL l
  | []=>by simp [deepL]
  | x::l=>by have:=deep_tot x;have:=deepL_tot l;rw [deepL,totL];omega
end
theorem deepL_take_le {l:List T} {k:Nat}:deepL (l.take k)≤totL l:=Nat.le_trans (deepL_tot _) totL_le
theorem wideS_append (a b:List T):∀ n,wideS n (a++b)=wideS (wideS n a) b:=by
  induction a with
  | nil=>intro n;rfl
  | cons x a ih=>intro n;rw [List.cons_append,wideS,wideS,ih]
theorem wideU_append (a b:List T):∀ n,wideU n (a++b)=wideU (wideU n a) b:=by
  induction a with
  | nil=>intro n;rfl
  | cons x a ih=>intro n;rw [List.cons_append,wideU,wideU,ih]
theorem wideI_append (a b:List T):∀ n,wideI n (a++b)=wideI (wideI n a) b:=by
  induction a with
  | nil=>intro n;rfl
  | cons x a ih=>intro n;rw [List.cons_append,wideI,wideI,ih]
theorem wideS_take (n:Nat) {l:List T} {k:Nat} (h:k<l.length):wideS n (l.take (k+1))=min (wideS n (l.take k)*wide l[k]) 1000:=by
  rw [List.take_add_one,List.getElem?_eq_getElem h,wideS_append]
  rfl
theorem wideU_take (n:Nat) {l:List T} {k:Nat} (h:k<l.length):wideU n (l.take (k+1))=min (wideU n (l.take k)+wide l[k]) 1000:=by
  rw [List.take_add_one,List.getElem?_eq_getElem h,wideU_append]
  rfl
theorem wideI_take (n:Nat) {l:List T} {k:Nat} (h:k<l.length):wideI n (l.take (k+1))=max (wideI n (l.take k)) (wide l[k]):=by
  rw [List.take_add_one,List.getElem?_eq_getElem h,wideI_append]
  rfl
mutual
theorem wide_le:∀ x:T,wide x≤1000
  | .mk k p f v l=>by
    rw [wide]
    split
    · exact wideS_le l 1 (by decide)
    split
    · exact wideU_le l 0 (by decide)
    split
    · exact wideI_le l 0 (by decide)
    · decide
theorem wideS_le:∀ (l:List T) (n:Nat),n≤1000→wideS n l≤1000
  | [],n,h=>by rw [wideS];exact h
  | x::l,n,h=>by rw [wideS];exact wideS_le l _ (Nat.min_le_right _ _)
theorem wideU_le:∀ (l:List T) (n:Nat),n≤1000→wideU n l≤1000
  | [],n,h=>by rw [wideU];exact h
  | x::l,n,h=>by rw [wideU];exact wideU_le l _ (Nat.min_le_right _ _)
theorem wideI_le:∀ (l:List T) (n:Nat),n≤1000→wideI n l≤1000
  | [],n,h=>by rw [wideI];exact h
  | x::l,n,h=>by have:=wide_le x;rw [wideI];exact wideI_le l _ (by omega)
end
theorem fitsL_iff (l:List T):fitsL l=true↔∀ p∈l,fits p=true:=by
  induction l with
  | nil=>simp [fitsL]
  | cons p l ih=>simp only [fitsL,Bool.and_eq_true,ih,List.mem_cons,forall_eq_or_imp]
theorem fits_mk {k:Int} {p:Pd.T} {f v:Int} {l:List T} (h:fits (.mk k p f v l)=true):(k=1∧Pd.right p=true∧(f=0∧v=0)∧l.length=0∨k=2∧none p=true∧(0≤f∧f≤4)∧(0≤v∧v≤Pd.top f)∧l.length=0∨(k=3∨k=4)∧none p=true∧(f=0∧v=0)∧2≤l.length∧l.length≤8∨k=5∧Pd.right p=true∧(f=0∧v=0)∧l.length=2)∧∀ x∈l,fits x=true:=by
  rw [fits,Bool.and_eq_true,fitsL_iff] at h
  have h1:=h.1
  unfold shape at h1
  rw [decide_eq_true_eq] at h1
  exact ⟨h1,h.2⟩
end Po
open Go.Sx
set_option maxRecDepth 20000
set_option linter.unusedVariables false
namespace Po
structure S where
  port:Int
  p0:Int
  p1:Int
  p2:Int
  p3:Int
deriving DecidableEq
def S.at_ (sw:Int) (s:S):Pd.At:=⟨sw,s.port,s.p0,s.p1,s.p2,s.p3⟩
def S.av (s:S):List AV:=[.int .i64 s.port,.int .i64 s.p0,.int .i64 s.p1,.int .i64 s.p2,.int .i64 s.p3]
def S.vs (s:S):List Value:=[.int .i64 s.port,.int .i64 s.p0,.int .i64 s.p1,.int .i64 s.p2,.int .i64 s.p3]
def S.key (s:S):Value:=.agg #[.int .i64 s.port,.int .i64 s.p0,.int .i64 s.p1,.int .i64 s.p2,.int .i64 s.p3]
theorem S.key_inj {x y:S} (h:x.key=y.key):x=y:=by
  obtain ⟨a,b,c,d,e⟩:=x
  obtain ⟨a',b',c',d',e'⟩:=y
  unfold S.key at h
  injection h with h
  simp at h
  obtain ⟨rfl,rfl,rfl,rfl,rfl⟩:=h
  rfl
theorem S.den (s:S):denL s.av=s.vs:=rfl
def ptop (f:Int):Int:=if f=2 then 15 else if f=0∨f=1∨f=3 then 255 else 0
def withS (f v:Int) (s:S):S :=
  if (0≤f∧f<4)∧0≤v∧v≤ptop f then (if f=0 then { s with p0:=v } else if f=1 then { s with p1:=v } else if f=2 then { s with p2:=v } else { s with p3:=v }) else s
def put (f v:Int) (s:S):S:=if f=4 then { s with port:=v } else withS f v s
def cmpI (a b:Int):Int:=if a<b then -1 else if b<a then 1 else 0
def cmpS (x y:S):Int :=
  if cmpI x.port y.port≠0 then cmpI x.port y.port else if cmpI x.p0 y.p0≠0 then cmpI x.p0 y.p0 else if cmpI x.p1 y.p1≠0 then cmpI x.p1 y.p1 else if cmpI x.p2 y.p2≠0 then cmpI x.p2 y.p2 else cmpI x.p3 y.p3
def ahead (x y:S):Prop:=x.port<y.port∨x.port=y.port∧(x.p0<y.p0∨x.p0=y.p0∧(x.p1<y.p1∨x.p1=y.p1∧(x.p2<y.p2∨x.p2=y.p2∧x.p3<y.p3)))
instance (x y:S):Decidable (ahead x y):=by unfold ahead;infer_instance
theorem cmpI_lt (a b:Int):cmpI a b<0↔a<b:=by unfold cmpI;split<;>first | omega | (split<;>omega)
theorem cmpI_0 (a b:Int):cmpI a b=0↔a=b:=by unfold cmpI;split<;>first | omega | (split<;>omega)
theorem cmpS_lt (x y:S):cmpS x y<0↔ahead x y:=by
  unfold cmpS ahead
  have h1:=cmpI_lt x.port y.port
  have h2:=cmpI_0 x.port y.port
  have h3:=cmpI_lt x.p0 y.p0
  have h4:=cmpI_0 x.p0 y.p0
  have h5:=cmpI_lt x.p1 y.p1
  have h6:=cmpI_0 x.p1 y.p1
  have h7:=cmpI_lt x.p2 y.p2
  have h8:=cmpI_0 x.p2 y.p2
  have h9:=cmpI_lt x.p3 y.p3
  repeat' split
  all_goals omega
theorem ahead_irrefl (x:S):¬ ahead x x:=by unfold ahead;omega
theorem ahead_trans {x y z:S} (h:ahead x y) (k:ahead y z):ahead x z:=by unfold ahead at *;omega
theorem ahead_or {x y:S} (h:¬ ahead x y) (k:¬ ahead y x):x=y:=by
  obtain ⟨a,b,c,d,e⟩:=x
  obtain ⟨a',b',c',d',e'⟩:=y
  unfold ahead at *
  simp only at h k
  simp only [S.mk.injEq]
  omega
abbrev Rising (l:List S):Prop:=l.Pairwise ahead
theorem rising_eq:∀ {a b:List S},Rising a→Rising b→(∀ t,t∈a↔t∈b)→a=b
  | [],[],_,_,_=>rfl
  | [],y::b,_,_,h=>by have:=(h y).2 (by simp);cases this
  | x::a,[],_,_,h=>by have:=(h x).1 (by simp);cases this
  | x::a,y::b,ha,hb,h=>by
    have ha':=List.pairwise_cons.1 ha
    have hb':=List.pairwise_cons.1 hb
    have hxy:x=y:=by
      have h1:=(h x).1 (by simp)
      have h2:=(h y).2 (by simp)
      rcases List.mem_cons.1 h1 with h1 | h1
      · exact h1
      · rcases List.mem_cons.1 h2 with h2 | h2
        · exact h2.symm
        · exact absurd (ahead_trans (hb'.1 x h1) (ha'.1 y h2)) (ahead_irrefl y)
    subst hxy
    congr 1
    refine rising_eq ha'.2 hb'.2 fun t=>?_
    have ht:=h t
    simp only [List.mem_cons] at ht
    constructor
    · intro hta
      rcases ht.1 (.inr hta) with rfl | h1
      · exact absurd (ha'.1 t hta) (ahead_irrefl t)
      · exact h1
    · intro htb
      rcases ht.2 (.inr htb) with rfl | h1
      · exact absurd (hb'.1 t htb) (ahead_irrefl t)
      · exact h1
def ins (s:S):List S→List S
  | []=>[s]
  | x::l=>if x=s then x::l else if ahead s x then s::x::l else x::ins s l
theorem mem_ins (s t:S) (l:List S):t∈ins s l↔t=s∨t∈l:=by
  induction l with
  | nil=>simp [ins]
  | cons x l ih =>
    unfold ins
    split
    · rename_i h
      subst h
      simp
    · split
      · simp
      · simp only [List.mem_cons,ih]
        constructor
        iterate 2
          · rintro (h | h | h)<;>simp [h]
theorem ins_rising (s:S) {l:List S} (h:Rising l):Rising (ins s l):=by
  induction l with
  | nil=>simp [ins]
  | cons x l ih =>
    have h':=List.pairwise_cons.1 h
    unfold ins
    split
    · exact h
    · rename_i hne
      split
      · rename_i ha
        refine List.pairwise_cons.2 ⟨fun t ht=>?_,h⟩
        rcases List.mem_cons.1 ht with rfl | ht
        · exact ha
        · exact ahead_trans ha (h'.1 t ht)
      · rename_i ha
        refine List.pairwise_cons.2 ⟨fun t ht=>?_,ih h'.2⟩
        rcases (mem_ins s t l).1 ht with rfl | ht
        · exact Classical.byContradiction fun hn=>hne (ahead_or hn ha)
        · exact h'.1 t ht
def both (a b:List S):List S:=b.foldl (fun acc s=>ins s acc) a
theorem mem_both (t:S):∀ (b a:List S),t∈both a b↔t∈a∨t∈b
  | [],a=>by simp [both]
  | x::b,a=>by
    have:=mem_both t b (ins x a)
    unfold both at *
    rw [List.foldl_cons,this,mem_ins,List.mem_cons]
    constructor
    · rintro ((h | h) | h)<;>simp [h]
    · rintro (h | h | h)<;>simp [h]
theorem both_rising:∀ (b:List S) {a:List S},Rising a→Rising (both a b)
  | [],a,h=>h
  | x::b,a,h=>both_rising b (ins_rising x h)
mutual
def runs (sw:Int):T→S→List S
  | .mk k p f v l,s=>if k=1 then (if Pd.hits (s.at_ sw) p=true then [s] else []) else if k=2 then [put f v s] else if k=3 then runsQ sw l [s] else if k=4 then runsU sw l s [] else if k=5 then (if Pd.hits (s.at_ sw) p=true then runsA sw l s else runsB sw l s) else []
def runsQ (sw:Int):List T→List S→List S
  | [],out=>out
  | y::l,out=>runsQ sw l (out.foldl (fun next t=>both next (runs sw y t)) [])
def runsU (sw:Int):List T→S→List S→List S
  | [],_,out=>out
  | y::l,s,out=>runsU sw l s (both out (runs sw y s))
def runsA (sw:Int):List T→S→List S
  | [],_=>[]
  | y::_,s=>runs sw y s
def runsB (sw:Int):List T→S→List S
  | [],_=>[]
  | _::l,s=>runsA sw l s
end
def thenS (sw:Int) (y:T) (out:List S):List S:=out.foldl (fun next t=>both next (runs sw y t)) []
theorem mem_fold (sw:Int) (y:T) (t:S):∀ (out a:List S),t∈out.foldl (fun next t=>both next (runs sw y t)) a↔t∈a∨∃ s∈out,t∈runs sw y s
  | [],a=>by simp
  | x::out,a=>by
    rw [List.foldl_cons,mem_fold sw y t out,mem_both]
    simp only [List.mem_cons,exists_eq_or_imp,or_assoc]
theorem mem_then (sw:Int) (y:T) (t:S) (out:List S):t∈thenS sw y out↔∃ s∈out,t∈runs sw y s:=by unfold thenS;rw [mem_fold];simp
theorem fold_rising (sw:Int) (y:T):∀ (out:List S) {a:List S},Rising a→Rising (out.foldl (fun next t=>both next (runs sw y t)) a)
  | [],a,h=>h
  | x::out,a,h=>by rw [List.foldl_cons];exact fold_rising sw y out (both_rising _ h)
theorem then_rising (sw:Int) (y:T) (out:List S):Rising (thenS sw y out):=fold_rising sw y out List.Pairwise.nil
theorem runsQ_append (sw:Int) (a b:List T):∀ out,runsQ sw (a++b) out=runsQ sw b (runsQ sw a out):=by
  induction a with
  | nil=>intro out;simp [runsQ]
  | cons y a ih=>intro out;rw [List.cons_append,runsQ,runsQ,ih]
theorem runsQ_one (sw:Int) (y:T) (out:List S):runsQ sw [y] out=thenS sw y out:=by rw [runsQ,runsQ];rfl
theorem runsQ_take (sw:Int) {l:List T} {k:Nat} (h:k<l.length) (out:List S):runsQ sw (l.take (k+1)) out=thenS sw l[k] (runsQ sw (l.take k) out):=by
  rw [List.take_add_one,List.getElem?_eq_getElem h,Option.toList_some,runsQ_append,runsQ_one]
theorem runsU_append (sw:Int) (s:S) (a b:List T):∀ out,runsU sw (a++b) s out=runsU sw b s (runsU sw a s out):=by
  induction a with
  | nil=>intro out;simp [runsU]
  | cons y a ih=>intro out;rw [List.cons_append,runsU,runsU,ih]
theorem runsU_take (sw:Int) {l:List T} {k:Nat} (h:k<l.length) (s:S) (out:List S):runsU sw (l.take (k+1)) s out=both (runsU sw (l.take k) s out) (runs sw l[k] s):=by
  rw [List.take_add_one,List.getElem?_eq_getElem h,Option.toList_some,runsU_append,runsU,runsU]
theorem mem_runsU (sw:Int) (s t:S):∀ (l:List T) (out:List S),t∈runsU sw l s out↔t∈out∨∃ y∈l,t∈runs sw y s
  | [],out=>by simp [runsU]
  | y::l,out=>by
    rw [runsU,mem_runsU sw s t l,mem_both]
    simp only [List.mem_cons,exists_eq_or_imp,or_assoc]
theorem runsQ_rising (sw:Int):∀ (l:List T) {out:List S},Rising out→Rising (runsQ sw l out)
  | [],out,h=>by rw [runsQ];exact h
  | y::l,out,h=>by rw [runsQ];exact runsQ_rising sw l (then_rising sw y out)
theorem runsU_rising (sw:Int) (s:S):∀ (l:List T) {out:List S},Rising out→Rising (runsU sw l s out)
  | [],out,h=>by rw [runsU];exact h
  | y::l,out,h=>by rw [runsU];exact runsU_rising sw s l (both_rising _ h)
theorem runs_mk (sw k:Int) (p:Pd.T) (f v:Int) (l:List T) (s:S):runs sw (.mk k p f v l) s=if k=1 then (if Pd.hits (s.at_ sw) p=true then [s] else []) else if k=2 then [put f v s] else if k=3 then runsQ sw l [s] else if k=4 then runsU sw l s [] else if k=5 then (if Pd.hits (s.at_ sw) p=true then runsA sw l s else runsB sw l s) else []:=by rw [runs]
theorem runs_rising (sw:Int) (s:S):∀ (n:Nat) (x:T),tot x≤n→Rising (runs sw x s)
  | 0,x,hn=>absurd (tot_pos x) (by omega)
  | n+1,⟨k,p,f,v,l⟩,hn=>by
    have ih:∀ y∈l,Rising (runs sw y s):=fun y hy=>runs_rising sw s n y (by have:=tot_lt (k:=k) (q:=p) (f:=f) (v:=v) hy;omega)
    rw [runs_mk]
    split
    · split<;>simp
    split
    · simp
    split
    · exact runsQ_rising sw l (by simp)
    split
    · exact runsU_rising sw s l List.Pairwise.nil
    split
    · split
      · cases l with
        | nil=>rw [runsA];exact List.Pairwise.nil
        | cons y l=>rw [runsA];exact ih y (by simp)
      · match l with
        | []=>rw [runsB];exact List.Pairwise.nil
        | [a]=>rw [runsB,runsA];exact List.Pairwise.nil
        | a::y::l=>rw [runsB,runsA];exact ih y (by simp)
    · exact List.Pairwise.nil
end Po
end Go.Proofs.YtmehinfgdcmmjaaGreatDoor
namespace Go.Sx
set_option linter.unusedVariables false
open Go.RowKit
@[irreducible] def aH (P:Program) (f:FuncId) (args:List AV) (m:List Blk) (K:AV→List Blk→Prop) (Kp:List PanicEntry→List Blk→Prop):Prop :=
  (∀ (us:Array Value) (w:World),(callFunc f us).run P w = .ok (.enter f us) w) ∧
  ∀ w,Qx m w→Calls P f (denL args).toArray w fun e w'=>(∃ r m',K r m'∧e = .returned r.den∧Qx m' w'∧Fr (wrs m) w w'∧Fresh (own m) w m') ∨
    ∃ ch m',Kp ch m'∧e = .panicked ch∧Qx m' w'∧Fr (wrs m) w w'∧Fresh (own m) w m'
theorem bm {P:Program} {f:FuncId} {args:List AV} {m:List Blk} {K:AV→List Blk→Prop} {Kp:List PanicEntry→List Blk→Prop}:aH P f args m K Kp ↔
  ((∀ (us:Array Value) (w:World),(callFunc f us).run P w = .ok (.enter f us) w) ∧
  ∀ w,Qx m w→Calls P f (denL args).toArray w fun e w'=>(∃ r m',K r m'∧e = .returned r.den∧Qx m' w'∧Fr (wrs m) w w'∧Fresh (own m) w m') ∨
    ∃ ch m',Kp ch m'∧e = .panicked ch∧Qx m' w'∧Fr (wrs m) w w'∧Fresh (own m) w m'):=by unfold aH;exact Iff.rfl
theorem aH.of {P:Program} {f:FuncId} {args:List AV} {m:List Blk} {K:AV→List Blk→Prop} {Kp:List PanicEntry→List Blk→Prop} (h:Qz P f args m K):aH P f args m K Kp:=by
  rw [aN] at h
  rw [bm]
  exact ⟨h.1,fun w hm=>(h.2 w hm).mono fun e w' hq=>.inl hq⟩
def opX (P:Program) (sl:List AV) (m:List Blk) (op:Op) (K:AV→List Blk→Prop) (Kp:List PanicEntry→List Blk→Prop):Prop :=
  match op with
  | .call c =>
    match c.callee with
    | .value f=>evK sl f fun f=>match f with
      | .fn g first captured=>evLK sl c.args.toList fun xs=>aH P g (first++xs++captured) m K Kp
      | _=>False
    | _=>opM P sl m op K
  | .panic x=>evK sl x fun x=>match x with
    | .ifc t y=>Kp [{ v:=.iface t y.den,recovered:=false }] m
    | _=>False
  | .makeInterface t x=>evK sl x fun y=>match P.underlying t with
    | some (.int _)=>K (.ifc t y) m
    | _=>False
  | .binOp op t x y t2=>evK sl x fun u=>match u with
    | .ifc _ _=>match op,y,P.underlying t with
      | .eql,.const .nilIface,some (.interface _)=>K (.bool false) m
      | .neq,.const .nilIface,some (.interface _)=>K (.bool true) m
      | _,_,_=>False
    | .raw .nilIface=>match op,y,P.underlying t with
      | .eql,.const .nilIface,some (.interface _)=>K (.bool true) m
      | .neq,.const .nilIface,some (.interface _)=>K (.bool false) m
      | _,_,_=>False
    | _=>opM P sl m (.binOp op t x y t2) K
  | .convert src dst x=>evK sl x fun u=>match u,P.underlying src,P.underlying dst with
    | .str s,some .string,some (.slice e)=>match P.underlying e with
      | some (.int .u8)=>lenLK m lits fun ln=>∀ b cap,appK m ⟨⟨b,0,none⟩,s.map fun c=>.int .u8 c.toNat,.ro (.slice (some ⟨b,0,none⟩) s.length cap) 1 s.length⟩ fun m'=>K (.sl ln (.slice (some ⟨b,0,none⟩) s.length cap) s.length) m'
      | _=>False
    | _,_,_=>opM P sl m (.convert src dst x) K
  | .typeAssert x _ to ok=>evK sl x fun u=>match u,ok,P.underlying to with
    | .ifc t1 v,true,some (.int _)=>match Nat.decEq t1 to with
      | .isTrue _=>K (.tup [v,.bool true]) m
      | .isFalse _=>False
    | _,_,_=>False
  | op=>opM P sl m op K
def opsX (P:Program) (ops:Array Oper):List Oper→List AV→List Blk→Post→Prop
  | [],sl,m,Q=>Q .normal sl m
  | o::rest,sl,m,Q =>
    match o.guard with
    | none=>opX P sl m o.op (fun v m'=>dstK sl o.dst v fun sl'=>opsX P ops rest sl' m' Q) fun ch m'=>Q (.panic ch) sl m'
    | some (j,want)=>guardK ops sl j want
      (opX P sl m o.op (fun v m'=>dstK sl o.dst v fun sl'=>opsX P ops rest sl' m' Q) fun ch m'=>Q (.panic ch) sl m')
      (dstK sl o.dst (.raw undef) fun sl'=>opsX P ops rest sl' m Q)
@[irreducible] def jN (P:Program) (ops:Array Oper) (sl:List AV) (m:List Blk) (Q:Post):Prop :=
  ∀ (id:Nat) (w0:World) (S:Own) (a:Act) (w:World),Sim w0 S sl m a w→(Code.region id ops true).wp P (fun e a w=>∃ sl m,Q e sl m∧Sim w0 S sl m a w) a w
def codeX (P:Program):Code→List AV→List Blk→Post→Prop
  | .skip,sl,m,Q=>Q .normal sl m
  | .region _ ops draw,sl,m,Q =>
    match draw with
    | false=>opsX P ops ops.toList sl m Q
    | true=>jN P ops sl m Q
  | .seq a b,sl,m,Q=>codeX P a sl m fun e sl m=>match e with
    | .normal=>codeX P b sl m Q
    | e=>Q e sl m
  | .cond c a b,sl,m,Q=>evK sl c fun v=>match v with
    | .bool x=>NIf x (codeX P a sl m Q) (codeX P b sl m Q)
    | _=>False
  | .block id c,sl,m,Q=>codeX P c sl m fun e sl m=>match e with
    | .exit j=>match Nat.decEq j id with
      | .isTrue _=>Q .normal sl m
      | .isFalse _=>Q (.exit j) sl m
    | e=>Q e sl m
  | .loop c,sl,m,Q=>NLoop (codeX P c) sl m Q
  | .exit id,sl,m,Q=>Q (.exit id) sl m
  | .ret,sl,m,Q=>Q .ret sl m
  | .scope c,sl,m,Q=>codeX P c sl m fun e sl m=>match e with
    | .goto _=>False
    | e=>Q e sl m
  | .label _,sl,m,Q=>Q .normal sl m
  | _,_,_,_=>False
def iM (P:Program) (fn:Func) (args:List AV) (m:List Blk) (R:AV→List Blk→Prop) (Rp:List PanicEntry→List Blk→Prop):Prop :=
  match fn.body with
  | some c=>argK args fn.ntmps fun sl=>codeX P c sl m fun e sl m' =>
    match e with
    | .normal=>resK P m' sl fn.results.toList fun xs=>retK xs fun r=>R r m'
    | .ret=>resK P m' sl fn.results.toList fun xs=>retK xs fun r=>R r m'
    | .panic ch=>Rp ch m'
    | _=>False
  | none=>False
section
variable {P:Program}
theorem jw {sl:List AV} {m:List Blk} {a:Act} {w w0:World} {S:Own} (hs:Qy sl a.tmps) (hm:Qx m w) (hf:Fr S.w w0 w) (hr:Fresh S w0 m) {o:Oper} {K:AV→List Blk→Prop} {Kp:List PanicEntry→List Blk→Prop}
    (h:opX P sl m o.op K Kp) {next:Act→World→Prop} {Q:Exit→Act→World→Prop} (hn:∀ v m' w',Left S w0 K v m' w'→next (a.put o.dst v.den) w') (hp:∀ ch m' w',Left S w0 (fun _ m=>Kp ch m) .any m' w'→Q (.panic ch) a w'):o.wp P a w next Q:=by
  obtain ⟨dst,op,ty,pos,after,guard⟩:=o
  have plain:opM P sl m op K→Oper.wp P ⟨dst,op,ty,pos,after,guard⟩ a w next Q:=fun h=>cM (o:=⟨dst,op,ty,pos,after,guard⟩) hs hm hf hr h hn
  have fresh_of:∀ {m':List Blk},Fresh (own m) w m'→Fresh S w0 m':=fun hr'=>⟨fun b hb=>by
      rcases hr'.1 b hb with h | h
      · exact hr.1 b h
      · exact .inr (Nat.le_trans hf.size h),fun b hb=>by
      rcases hr'.2 b hb with h | h
      · exact hr.2 b h
      · exact .inr (Nat.le_trans hf.size h)⟩
  cases op with
  | call c =>
    obtain ⟨callee,args,tys⟩:=c
    cases callee with
    | value f =>
      simp only [opX] at h
      obtain ⟨u,h1,h2⟩:=aG hs h
      cases u<;>try exact h1.elim
      rename_i g first captured
      obtain ⟨xs,h3,h4⟩:=bj hs h1
      rw [bm] at h3
      obtain ⟨h5,h6⟩:=h3
      unfold Oper.wp
      have:(execOp a.eval { dst:=dst,op:=.call { callee:=.value f,args:=args,argTypes:=tys },type:=ty,pos:=pos,after:=after,guard:=guard }).run P w = .ok (.enter g (denL (first++xs++captured)).toArray) w:=by
        simp only [execOp,resolve,Sem.run_bind,h2,AV.den,Deferred.ofValue,Sem.run_pure,Result.andThen_ok,invoke,aZ h4,h5]
        simp [aS]
      rw [this,Oper.upon_enter]
      refine (h6 w hm).mono fun e w' h7=>?_
      rcases h7 with ⟨r,m',hK,rfl,hm',hf',hr'⟩ | ⟨ch,m',hK,rfl,hm',hf',hr'⟩
      · exact hn r m' w' ⟨hK,hm',hf.then hf' hr.1,fresh_of hr'⟩
      · exact hp ch m' w' ⟨hK,hm',hf.then hf' hr.1,fresh_of hr'⟩
    | _=>exact plain h
  | panic x =>
    simp only [opX] at h
    obtain ⟨u,h1,h2⟩:=aG hs h
    cases u<;>try exact h1.elim
    rename_i t y
    unfold Oper.wp
    have:(execOp a.eval { dst:=dst,op:=.panic x,type:=ty,pos:=pos,after:=after,guard:=guard }).run P w = .halt (.panic (.iface t y.den)) w:=by
      simp only [execOp,h2,AV.den]
      rfl
    rw [this,Oper.upon_panic]
    exact hp _ m w ⟨h1,hm,hf,hr⟩
  | makeInterface t x =>
    simp only [opX] at h
    obtain ⟨u,h1,h2⟩:=aG hs h
    split at h1
    · rename_i k hk
      unfold Oper.wp
      have:(execOp a.eval { dst:=dst,op:=.makeInterface t x,type:=ty,pos:=pos,after:=after,guard:=guard }).run P w = .ok (.value (AV.ifc t u).den) w:=by
        simp only [execOp,h2,AV.den,Instr.makeInterface,Sem.run_bind,run_underlying hk,Result.andThen_ok]
        rfl
      rw [this,Oper.upon_value]
      exact hn (.ifc t u) m w ⟨h1,hm,hf,hr⟩
    · exact h1.elim
  | binOp op t x y t2 =>
    simp only [opX] at h
    obtain ⟨u,h1,h2⟩:=aG hs h
    split at h1
    · rename_i t1 v
      split at h1
      · rename_i ms hu
        have hm2:P.underlying t=some (.interface (P.methodsAt t)):=by rw [hu];unfold Program.methodsAt;rw [hu]
        unfold Oper.wp
        have:(execOp a.eval { dst:=dst,op:=.binOp .eql t x (.const .nilIface) t2,type:=ty,pos:=pos,after:=after,guard:=guard }).run P w = .ok (.value (AV.bool false).den) w:=by
          have h3:a.eval (.const .nilIface) = .nilIface:=rfl
          have h4:eqGuard .eql t x (.const .nilIface) (.iface t1 v.den) .nilIface=pure ():=rfl
          simp only [execOp,h2,h3,h4,AV.den,Sem.run_bind,Sem.run_pure,Result.andThen_ok,run_eql_held_nil w t t1 v.den hm2]
        rw [this,Oper.upon_value]
        exact hn (.bool false) m w ⟨h1,hm,hf,hr⟩
      · rename_i ms hu
        have hm2:P.underlying t=some (.interface (P.methodsAt t)):=by rw [hu];unfold Program.methodsAt;rw [hu]
        unfold Oper.wp
        have:(execOp a.eval { dst:=dst,op:=.binOp .neq t x (.const .nilIface) t2,type:=ty,pos:=pos,after:=after,guard:=guard }).run P w = .ok (.value (AV.bool true).den) w:=by
          have h3:a.eval (.const .nilIface) = .nilIface:=rfl
          have h4:eqGuard .neq t x (.const .nilIface) (.iface t1 v.den) .nilIface=pure ():=rfl
          simp only [execOp,h2,h3,h4,AV.den,Sem.run_bind,Sem.run_pure,Result.andThen_ok,run_neq_held_nil w t t1 v.den hm2]
        rw [this,Oper.upon_value]
        exact hn (.bool true) m w ⟨h1,hm,hf,hr⟩
      · exact h1.elim
    · split at h1
      · rename_i ms hu
        have hm2:P.underlying t=some (.interface (P.methodsAt t)):=by rw [hu];unfold Program.methodsAt;rw [hu]
        unfold Oper.wp
        have:(execOp a.eval { dst:=dst,op:=.binOp .eql t x (.const .nilIface) t2,type:=ty,pos:=pos,after:=after,guard:=guard }).run P w = .ok (.value (AV.bool true).den) w:=by
          have h3:a.eval (.const .nilIface) = .nilIface:=rfl
          have h4:eqGuard .eql t x (.const .nilIface) .nilIface .nilIface=pure ():=by cases x<;>rfl
          simp only [execOp,h2,h3,h4,AV.den,Sem.run_bind,Sem.run_pure,Result.andThen_ok,run_eql_nil_nil w t hm2]
        rw [this,Oper.upon_value]
        exact hn (.bool true) m w ⟨h1,hm,hf,hr⟩
      · rename_i ms hu
        have hm2:P.underlying t=some (.interface (P.methodsAt t)):=by rw [hu];unfold Program.methodsAt;rw [hu]
        unfold Oper.wp
        have:(execOp a.eval { dst:=dst,op:=.binOp .neq t x (.const .nilIface) t2,type:=ty,pos:=pos,after:=after,guard:=guard }).run P w = .ok (.value (AV.bool false).den) w:=by
          have h3:a.eval (.const .nilIface) = .nilIface:=rfl
          have h4:eqGuard .neq t x (.const .nilIface) .nilIface .nilIface=pure ():=by cases x<;>rfl
          simp only [execOp,h2,h3,h4,AV.den,Sem.run_bind,Sem.run_pure,Result.andThen_ok,run_neq_nil_nil w t hm2]
        rw [this,Oper.upon_value]
        exact hn (.bool false) m w ⟨h1,hm,hf,hr⟩
      · exact h1.elim
    · exact plain h1
  | convert st dt x =>
    simp only [opX] at h
    obtain ⟨u,h1,h2⟩:=aG hs h
    split at h1
    · rename_i s e hsrc hdst
      split at h1
      · rename_i he
        have h3:=cO h1
        have h4:=bV (h3 w.heap.size (grownCap w s.length 0 e))
        have hrun:=Lib.run_convert_string_bytes (P:=P) w st dt e ⟨s.toArray⟩ hsrc hdst he
        have hsz:(⟨s.toArray⟩:ByteArray).size=s.length:=by simp [ByteArray.size]
        rw [hsz] at hrun
        unfold Oper.wp
        have:(execOp a.eval { dst:=dst,op:=.convert st dt x,type:=ty,pos:=pos,after:=after,guard:=guard }).run P w = .ok (.value (AV.sl m.length (.slice (some ⟨w.heap.size,0,none⟩) s.length (grownCap w s.length 0 e)) s.length).den) (Lib.bytesWorld w e ⟨s.toArray⟩):=by
          simp only [execOp,h2,AV.den,Sem.run_bind,hrun,Result.andThen_ok]
          rfl
        rw [this,Oper.upon_value]
        have hden:∀ j u,(denL (s.map fun c=>AV.int .u8 c.toNat))[j]?=some u→(Lib.bytesWorld w e ⟨s.toArray⟩).cell? (Addr.add ⟨w.heap.size,0,none⟩ j)=some u:=fun j u hu=>by
          have hdl:denL (s.map fun c=>AV.int .u8 c.toNat)=s.map fun c=>Value.int .u8 c.toNat:=by
            clear hrun hsz h4 h3 h1 h2 this hu
            induction s with
            | nil=>rfl
            | cons c l ih=>simp only [List.map_cons,denL,AV.den];rw [ih]
          rw [hdl,List.getElem?_map] at hu
          cases hc:s[j]? with
          | none=>rw [hc] at hu;cases hu
          | some c =>
            rw [hc] at hu
            cases hu
            have hj:=(List.getElem?_eq_some_iff.1 hc).1
            have:=Lib.bytesWorld_cell w e ⟨s.toArray⟩ j (by rw [hsz];exact hj)
            rw [show (Addr.add ⟨w.heap.size,0,none⟩ j)=(⟨w.heap.size,j,none⟩:Addr) by cases j<;>simp [Addr.add],this]
            have hg:s.getD j 0=c:=by rw [List.getD_eq_getElem?_getD,hc];rfl
            show some (Value.int .u8 ((s.getD j 0).toNat:Int))=_
            rw [hg]
        refine hn _ _ _ ⟨h4,?_,?_,?_⟩
        · refine hm.push (by rw [Lib.bytesWorld_size];omega) (fun k hk b hb=>Lib.bytesWorld_at_old w e _ b ((hm.holds k hk).lt hb)) ⟨by simp,some ⟨w.heap.size,0,none⟩,_,rfl,?_,by simp,fun _=>⟨rfl,by rw [Lib.bytesWorld_size];simp,hden⟩⟩ (fun b hb=>?_)
          · exact grownCap_ge w s.length 0 e
          · simp [Blk.foot,Blk.bn] at hb
            omega
        · exact hf.then (T:=fun _=>False) ⟨rfl,rfl,rfl,by rw [Lib.bytesWorld_size];omega,fun k hk _=>Lib.bytesWorld_at_old w e _ k hk⟩ fun i hi=>hi.elim
        · refine hr.push rfl fun b hb=>?_
          simp [Blk.bn] at hb
          have:=hf.size
          omega
      · exact h1.elim
    · exact plain h1
  | typeAssert x xt to ok =>
    simp only [opX] at h
    obtain ⟨u,h1,h2⟩:=aG hs h
    split at h1
    · rename_i t1 v k hk
      split at h1
      · rename_i he _
        subst he
        unfold Oper.wp
        have:(execOp a.eval { dst:=dst,op:=.typeAssert x xt t1 true,type:=ty,pos:=pos,after:=after,guard:=guard }).run P w = .ok (.value (AV.tup [v,.bool true]).den) w:=by
          simp only [execOp,h2,AV.den,Instr.typeAssert,Sem.run_bind,run_underlying hk,Result.andThen_ok,if_true]
          rfl
        rw [this,Oper.upon_value]
        exact hn (.tup [v,.bool true]) m w ⟨h1,hm,hf,hr⟩
      · exact h1.elim
    · exact h1.elim
  | _=>exact plain h
theorem lR {w0:World} {S:Own} {ops:Array Oper} {l:List Oper} {sl:List AV} {m:List Blk} {Q:Post} (h:opsX P ops l sl m Q) {a:Act} {w:World} (hsim:Sim w0 S sl m a w)
    {R:Exit→Act→World→Prop} (hk:∀ e sl m a w,Q e sl m→Sim w0 S sl m a w→R e a w):wpList P ops R l a w:=by
  induction l generalizing sl m a w with
  | nil=>exact hk _ _ _ _ _ h hsim
  | cons o rest ih =>
    simp only [opsX] at h
    have run:(opX P sl m o.op (fun v m'=>dstK sl o.dst v fun sl'=>opsX P ops rest sl' m' Q) fun ch m'=>Q (.panic ch) sl m')→o.wp P a w (wpList P ops R rest) R:=fun h =>
      jw hsim.slots hsim.mem hsim.fr hsim.fresh h (fun v m' w' hl=>by
        obtain ⟨sl',h1,h2⟩:=aO hl.k hsim.slots
        exact ih h1 (hsim.step h2 hl.mem hl.fr hl.fresh)) fun ch m' w' hl=>hk _ _ _ _ _ hl.k ⟨hsim.slots,hsim.defers,hl.mem,hl.fr,hl.fresh⟩
    unfold wpList
    split at h
    · rename_i hg
      rw [if_pos (by simp [Region.wanted,hg])]
      exact .inl (run h)
    · rename_i j want hg
      rcases bH h hsim.slots hg with ⟨h1,h2⟩ | ⟨h1,h2⟩
      · rw [if_pos h1]
        exact .inl (run h2)
      · rw [if_neg (by simp [h1])]
        obtain ⟨sl',h3,h4⟩:=aO h2 hsim.slots
        exact ih h3 (hsim.step h4 hsim.mem hsim.fr hsim.fresh)
theorem dm {w0:World} {S:Own} {c:Code}:∀ {sl:List AV} {m:List Blk} {Q:Post},codeX P c sl m Q→∀ {a:Act} {w:World},Sim w0 S sl m a w →
    c.wp P (fun e a w=>∃ sl m,Q e sl m∧Sim w0 S sl m a w) a w:=by
  induction c with
  | skip=>intro sl m Q h a w hs;exact wp_skip ⟨_,_,h,hs⟩
  | region id ops draw =>
    intro sl m Q h a w hs
    cases draw with
    | false =>
      exact wp_region_list (lR h hs fun e sl m a w h1 h2=>⟨sl,m,h1,h2⟩)
    | true =>
      simp only [codeX] at h
      unfold jN at h
      exact h id w0 S a w hs
  | seq x y ihx ihy =>
    intro sl m Q h a w hs
    refine wp_seq (wp_mono (ihx h hs) fun e a w hq=>?_)
    obtain ⟨sl',m',h1,h2⟩:=hq
    cases e with
    | normal=>exact ihy h1 h2
    | _=>exact ⟨sl',m',h1,h2⟩
  | cond c x y ihx ihy =>
    intro sl m Q h a w hs
    obtain ⟨v,h1,h2⟩:=aG hs.slots h
    cases v<;>try exact h1.elim
    rename_i t
    simp only [bo] at h1
    refine wp_cond_split (t:=t) (by rw [h2];rfl) (fun ht=>ihx (h1.1 ht) hs) (fun ht=>ihy (h1.2 ht) hs)
  | block id c ih =>
    intro sl m Q h a w hs
    refine wp_block (wp_mono (ih h hs) fun e a w hq=>?_)
    obtain ⟨sl',m',h1,h2⟩:=hq
    cases e with
    | exit j =>
      simp only [Exit.inBlock]
      split at h1
      · rename_i hj;injection hj with hj;subst hj
        split at h1
        · rename_i heq _;rw [if_pos heq];exact ⟨sl',m',h1,h2⟩
        · rename_i heq _;rw [if_neg heq];exact ⟨sl',m',h1,h2⟩
      · rename_i hne;exact (hne _ rfl).elim
    | _=>exact ⟨sl',m',h1,h2⟩
  | loop c ih =>
    intro sl m Q h a w hs
    simp only [codeX] at h
    unfold NLoop at h
    rcases h with ⟨α,ok,s,mm,μ,hin,hround⟩ | ⟨n,hn⟩
    rotate_left
    · refine wp_loop_rounds n ?_
      induction n generalizing sl m a w with
      | zero=>exact hn.elim
      | succ n ihn =>
        rw [rounds_succ]
        refine wp_mono (ih hn hs) fun e a w hq=>?_
        obtain ⟨sl',m',h3,h4⟩:=hq
        cases e with
        | normal=>exact ihn h4 h3
        | _=>exact ⟨sl',m',h3,h4⟩
    obtain ⟨x0,h0,h1,h2⟩:=hin ⟨w,hs.mem⟩
    refine wp_loop_ghost (fun n a w=>∃ x,ok x∧μ x=n∧Sim w0 S (s x) (mm x) a w) (μ x0) ⟨x0,h0,rfl,hs.fits h1 h2⟩ ?_
    rintro n a w ⟨x,hx,rfl,hsx⟩
    refine wp_mono (ih (hround x hx) hsx) fun e a w hq=>?_
    obtain ⟨sl',m',h3,h4⟩:=hq
    cases e with
    | normal =>
      obtain ⟨x',h5,h6,h7,h8⟩:=h3.get ⟨w,h4.mem⟩
      exact ⟨μ x',h6,x',h5,rfl,h4.fits h7 h8⟩
    | _=>exact ⟨sl',m',h3,h4⟩
  | rangeFunc=>intro sl m Q h;exact h.elim
  | exit id=>intro sl m Q h a w hs;exact wp_exit ⟨_,_,h,hs⟩
  | scope c ih =>
    intro sl m Q h a w hs
    refine wp_scope_straight (wp_mono (ih h hs) fun e a w hq=>?_)
    obtain ⟨sl',m',h1,h2⟩:=hq
    cases e with
    | goto l=>exact h1.elim
    | _=>exact ⟨sl',m',h1,h2⟩
  | label l=>intro sl m Q h a w hs;exact wp_label ⟨_,_,h,hs⟩
  | goto l=>intro sl m Q h;exact h.elim
  | ret=>intro sl m Q h a w hs;exact wp_ret ⟨_,_,h,hs⟩
  | refuse why=>intro sl m Q h;exact h.elim
theorem ax {f : FuncId} {fn : Func} (hf : P.funcs[f]? = some fn) (hb : fn.body.isSome = true) (hn : (fn.name == "runtime.NumGoroutine") = false) {args : List AV} {m : List Blk} {K : AV → List Blk → Prop} {Kp : List PanicEntry → List Blk → Prop}
    (h:iM P fn args m K Kp):aH P f args m K Kp:=by
  rw [bm]
  refine ⟨enters_of hf hb hn,fun w hm=>?_⟩
  unfold iM at h
  split at h
  · rename_i c hc
    obtain ⟨hlen,h⟩:=dH h
    have hsim:Sim w (own m) (args++List.replicate (fn.ntmps - args.length) .any) m { tmps:=(denL args).toArray++Array.replicate (fn.ntmps - (denL args).toArray.size) undef,defers:=[] } w :=
      ⟨dz hlen,rfl,hm,Fr.refl _ w,fun b hb=>.inl hb,fun b hb=>.inl hb⟩
    refine calls_of_wp hf hc (wp_mono (dm h hsim) fun e a w' hq=>?_)
    obtain ⟨sl',m',h1,h2⟩:=hq
    cases e with
    | normal =>
      obtain ⟨xs,h3,h4⟩:=am h2.slots h1
      exact ⟨h2.defers,_,h4 w' h2.mem,.inl ⟨_,_,bR h3,rfl,h2.mem,h2.fr,h2.fresh⟩⟩
    | ret =>
      obtain ⟨xs,h3,h4⟩:=am h2.slots h1
      exact ⟨h2.defers,_,h4 w' h2.mem,.inl ⟨_,_,bR h3,rfl,h2.mem,h2.fr,h2.fresh⟩⟩
    | exit id=>exact h1.elim
    | goto l=>exact h1.elim
    | panic ch=>exact ⟨h2.defers,.inr ⟨_,_,h1,rfl,h2.mem,h2.fr,h2.fresh⟩⟩
    | outgrown=>exact h1.elim
  · exact h.elim
theorem gw {m mL:List Blk} (idx:List Nat) (hn:idx.Nodup) (hmL:idx.map (fun i=>m[i]?)=mL.map some) :
    (∀ w,Qx m w→Qx mL w∧∀ b,wrs mL b→wrs m b)∧∀ bs:List Blk,idx.length≤bs.length→∀ w w',Qx m w→Qx bs w'→Fr (wrs mL) w w'→Fresh (own mL) w bs→Qx (rep m idx bs) w'∧Fresh (own m) w (rep m idx bs):=by
  have hlen:idx.length=mL.length:=by simpa using congrArg List.length hmL
  have hat:∀ t:Nat,∀ k,mL[t]?=some k→∃ i,idx[t]?=some i∧m[i]?=some k:=fun t k hk=>by
    have e:=congrArg (fun l=>l[t]?) hmL
    simp only [List.getElem?_map,hk,Option.map_some] at e
    rcases hi:idx[t]? with _ | i
    · rw [hi] at e;simp at e
    · rw [hi] at e
      simp only [Option.map_some,Option.some.injEq] at e
      exact ⟨i,rfl,e⟩
  have hlt:∀ i∈idx,i<m.length:=fun i hi=>by
    obtain ⟨t,ht,rfl⟩:=List.getElem_of_mem hi
    obtain ⟨i',h1,h2⟩:=hat t mL[t] (List.getElem?_eq_getElem (by omega))
    rw [List.getElem?_eq_getElem ht] at h1
    cases h1
    exact (List.getElem?_eq_some_iff.1 h2).1
  have hmem:∀ k∈mL,∃ i∈idx,m[i]?=some k:=fun k hk=>by
    obtain ⟨t,ht,rfl⟩:=List.getElem_of_mem hk
    obtain ⟨i,h1,h2⟩:=hat t _ (List.getElem?_eq_getElem ht)
    exact ⟨i,List.mem_of_getElem? h1,h2⟩
  have hwrs:∀ b,wrs mL b→wrs m b:=fun b ⟨k,hk,h1,h2⟩=>by
    obtain ⟨i,_,h3⟩:=hmem k hk
    exact ⟨k,List.mem_of_getElem? h3,h1,h2⟩
  refine ⟨(fun w hm=>⟨⟨fun k hk=>?_,eo fun i j x y hij hx hy=>?_⟩,hwrs⟩),?_⟩
  · obtain ⟨i,_,h3⟩:=hmem k hk
    exact hm.holds k (List.mem_of_getElem? h3)
  · obtain ⟨i',h1,h2⟩:=hat i x hx
    obtain ⟨j',h3,h4⟩:=hat j y hy
    refine bc hm.sep (fun e=>?_) h2 h4
    subst e
    obtain ⟨hi,e1⟩:=List.getElem?_eq_some_iff.1 h1
    obtain ⟨hj,e2⟩:=List.getElem?_eq_some_iff.1 h3
    exact List.pairwise_iff_getElem.1 hn i j hi hj hij (e1.trans e2.symm)
  intro bs hl w w' hm hm' hf hfr
  have hylt:∀ y∈m,∀ b,y.foot b→b<w.heap.size:=fun y hy b hb=>(hm.holds y hy).lt hb
  have hold:∀ j y,j ∉ idx→m[j]?=some y→∀ b,y.foot b→¬ wrs mL b:=fun j y hj hy b hb ⟨k,hk,hkw,hkb⟩=>by
    obtain ⟨i,hi,h3⟩:=hmem k hk
    exact bc hm.sep (i:=i) (j:=j) (fun e=>hj (e ▸ hi)) h3 hy (.inl hkw) b hkb hb
  have hfoot:∀ j y,j ∉ idx→m[j]?=some y→y.wr=true→∀ b,y.foot b→¬ foots mL b:=fun j y hj hy hyw b hb ⟨k,hk,hkb⟩=>by
    obtain ⟨i,hi,h3⟩:=hmem k hk
    exact bc hm.sep (i:=i) (j:=j) (fun e=>hj (e ▸ hi)) h3 hy (.inr hyw) b hkb hb
  have hbo:∀ t x j y,bs[t]?=some x→j ∉ idx→m[j]?=some y→Sep x y:=fun t x j y hx hj hy=>fun hww b hb1 hb2=>by
    have hnew:b<w.heap.size:=hylt y (List.mem_of_getElem? hy) b hb2
    rcases hww with hw | hw
    · rcases hfr.1 b ⟨x,List.mem_of_getElem? hx,hw,hb1⟩ with h3 | h3
      · exact hold j y hj hy b hb2 h3
      · omega
    · rcases hfr.2 b ⟨x,List.mem_of_getElem? hx,hb1⟩ with h3 | h3
      · exact hfoot j y hj hy hw b hb2 h3
      · omega
  have hfoots:∀ b,foots mL b→foots m b:=fun b ⟨k,hk,hkb⟩=>by
    obtain ⟨i,_,h3⟩:=hmem k hk
    exact ⟨k,List.mem_of_getElem? h3,hkb⟩
  refine ⟨⟨fun k hk=>?_,eo fun i j x y hij hx hy=>?_⟩,fun b ⟨k,hk,hkw,hkb⟩=>?_,fun b ⟨k,hk,hkb⟩=>?_⟩
  · obtain ⟨j,hj⟩:=List.getElem?_of_mem hk
    rcases be idx m bs j k hn hlt hl hj with ⟨t,ht,_⟩ | ⟨h3,h4⟩
    · exact hm'.holds k (List.mem_of_getElem? ht)
    · refine (hm.holds k (List.mem_of_getElem? h4)).keep hf.size fun b hb=>?_
      exact hf.block b (hylt k (List.mem_of_getElem? h4) b hb) (hold j k h3 h4 b hb)
  · rcases be idx m bs i x hn hlt hl hx with ⟨t,ht,hti⟩ | ⟨h3,h4⟩
    · rcases be idx m bs j y hn hlt hl hy with ⟨u,hu,huj⟩ | ⟨h5,h6⟩
      · exact bc hm'.sep (fun e=>by subst e;omega) ht hu
      · exact hbo t x j y ht h5 h6
    · rcases be idx m bs j y hn hlt hl hy with ⟨u,hu,huj⟩ | ⟨h5,h6⟩
      · exact (hbo u y i x hu h3 h4).symm
      · exact bc hm.sep (by omega) h4 h6
  · obtain ⟨j,hj⟩:=List.getElem?_of_mem hk
    rcases be idx m bs j k hn hlt hl hj with ⟨t,ht,_⟩ | ⟨h3,h4⟩
    · rcases hfr.1 b ⟨k,List.mem_of_getElem? ht,hkw,hkb⟩ with h5 | h5
      · exact .inl (hwrs b h5)
      · exact .inr h5
    · exact .inl ⟨k,List.mem_of_getElem? h4,hkw,hkb⟩
  · obtain ⟨j,hj⟩:=List.getElem?_of_mem hk
    rcases be idx m bs j k hn hlt hl hj with ⟨t,ht,_⟩ | ⟨h3,h4⟩
    · rcases hfr.2 b ⟨k,List.mem_of_getElem? ht,hkb⟩ with h5 | h5
      · exact .inl (hfoots b h5)
      · exact .inr h5
    · exact .inl ⟨k,List.mem_of_getElem? h4,hkb⟩
theorem aH.frame {f:FuncId} {args args':List AV} {m mL:List Blk} {K KL:AV→List Blk→Prop} {Kp KpL:List PanicEntry→List Blk→Prop} (h:aH P f args' mL KL KpL) (hargs:denL args'=denL args)
    (hin:∀ w,Qx m w→Qx mL w∧∀ b,wrs mL b→wrs m b)
    (hK:∀ r mL',KL r mL'→∃ r' m',r'.den=r.den∧K r' m'∧∀ w w',Qx m w→Qx mL' w'→Fr (wrs mL) w w'→Fresh (own mL) w mL'→Qx m' w'∧Fresh (own m) w m')
    (hP:∀ ch mL',KpL ch mL'→∃ m',Kp ch m'∧∀ w w',Qx m w→Qx mL' w'→Fr (wrs mL) w w'→Fresh (own mL) w mL'→Qx m' w'∧Fresh (own m) w m'):aH P f args m K Kp:=by
  rw [bm] at h ⊢
  refine ⟨h.1,fun w hm=>?_⟩
  have fr:∀ {w':World},Fr (wrs mL) w w'→Fr (wrs m) w w':=fun h4=>⟨h4.os,h4.tape,h4.output,h4.size,fun k hk hs=>h4.block k hk (fun ht=>hs ((hin w hm).2 k ht))⟩
  have h2:=(h.2 w (hin w hm).1).mono (R':=fun e w'=>(∃ r m',K r m'∧e = .returned r.den∧Qx m' w'∧Fr (wrs m) w w'∧Fresh (own m) w m')∨∃ ch m',Kp ch m'∧e = .panicked ch∧Qx m' w'∧Fr (wrs m) w w'∧Fresh (own m) w m') fun e w' hq=>by
    rcases hq with ⟨r,mL',h1,rfl,h3,h4,h5⟩ | ⟨ch,mL',h1,rfl,h3,h4,h5⟩
    · obtain ⟨r',m',h6,h7,h8⟩:=hK r mL' h1
      obtain ⟨h9,h10⟩:=h8 w w' hm h3 h4 h5
      exact .inl ⟨r',m',h7,by rw [h6],h9,fr h4,h10⟩
    · obtain ⟨m',h7,h8⟩:=hP ch mL' h1
      obtain ⟨h9,h10⟩:=h8 w w' hm h3 h4 h5
      exact .inr ⟨ch,m',h7,rfl,h9,fr h4,h10⟩
  rw [hargs] at h2
  exact h2
theorem aH.subw {f:FuncId} {args:List AV} {m:List Blk} {K KL:AV→List Blk→Prop} {Kp KpL:List PanicEntry→List Blk→Prop} (idx:List Nat) (args':List AV) (mL:List Blk) (h:aH P f args' mL KL KpL) (hargs:denL args'=denL args)
    (hn:idx.Nodup) (hmL:idx.map (fun i=>m[i]?)=mL.map some)
    (hK:∀ r bs,KL r bs→idx.length≤bs.length∧∃ r',r'.den=r.den∧db m idx bs (K r'))
    (hP:∀ ch bs,KpL ch bs→idx.length≤bs.length∧db m idx bs (Kp ch)):aH P f args m K Kp:=by
  obtain ⟨h1,h2⟩:=gw (mL:=mL) idx hn hmL
  refine h.frame hargs h1 (fun r bs hr=>?_) fun ch bs hr=>?_
  · obtain ⟨h3,r',h4,h5⟩:=hK r bs hr
    exact ⟨r',_,h4,bz _ _ _ h5,h2 bs h3⟩
  · obtain ⟨h3,h5⟩:=hP ch bs hr
    exact ⟨_,bz _ _ _ h5,h2 bs h3⟩
theorem aH.fits {f:FuncId} {args:List AV} {m:List Blk} {K K':AV→List Blk→Prop} {Kp Kp':List PanicEntry→List Blk→Prop} (h:aH P f args m K Kp)
    (hk:∀ r m',K r m'→∃ r' m'',r'.den=r.den∧Qw m' m''∧K' r' m'') (hp:∀ ch m',Kp ch m'→∃ m'',Qw m' m''∧Kp' ch m''):aH P f args m K' Kp':=by
  rw [bm] at h ⊢
  refine ⟨h.1,fun w hm=>(h.2 w hm).mono fun e w' hq=>?_⟩
  rcases hq with ⟨r,m',h1,rfl,h3,h4,h5⟩ | ⟨r,m',h1,rfl,h3,h4,h5⟩
  · obtain ⟨r',m'',h6,h7,h8⟩:=hk r m' h1
    exact .inl ⟨r',m'',h8,by rw [h6],(h7 w' h3).1,h4,fun b hb=>h5.1 b ((h7 w' h3).2.1 b hb),fun b hb=>h5.2 b ((h7 w' h3).2.2 b hb)⟩
  · obtain ⟨m'',h7,h8⟩:=hp r m' h1
    exact .inr ⟨r,m'',h8,rfl,(h7 w' h3).1,h4,fun b hb=>h5.1 b ((h7 w' h3).2.1 b hb),fun b hb=>h5.2 b ((h7 w' h3).2.2 b hb)⟩
theorem gCX {f:FuncId} {args:List AV} {m:List Blk} {K:AV→List Blk→Prop} {Kp:List PanicEntry→List Blk→Prop} (h:aH P f args m K Kp):aH P f args m K Kp:=h
theorem gOX {ops:Array Oper} {l:List Oper} {sl:List AV} {m:List Blk} {Q:Post} (h:opsX P ops l sl m Q):opsX P ops l sl m Q:=h
theorem gXX {c:Code} {sl:List AV} {m:List Blk} {Q:Post} (h:codeX P c sl m Q):codeX P c sl m Q:=h
def jS (P:Program) (b:Code) (Q:Post):Post:=fun e sl m=>match e with
  | .normal=>codeX P b sl m Q
  | e=>Q e sl m
def mu (P:Program) (fn:Func) (R:AV→List Blk→Prop) (Rp:List PanicEntry→List Blk→Prop):Post:=fun e sl m=>match e with
  | .normal=>resK P m sl fn.results.toList fun xs=>retK xs fun r=>R r m
  | .ret=>resK P m sl fn.results.toList fun xs=>retK xs fun r=>R r m
  | .panic ch=>Rp ch m
  | _=>False
end
section
variable {P:Program} {Q:Post} {sl:List AV} {m:List Blk} {a b c:Code} {id j:Nat} {ch:List PanicEntry}
theorem gRX {fn:Func} {R:AV→List Blk→Prop} {Rp:List PanicEntry→List Blk→Prop} {e:Exit} (h:mu P fn R Rp e sl m):mu P fn R Rp e sl m:=h
theorem gFX {fn:Func} {args:List AV} {R:AV→List Blk→Prop} {Rp:List PanicEntry→List Blk→Prop} (h:iM P fn args m R Rp):iM P fn args m R Rp:=h
theorem fj {fn:Func} {c:Code} {args:List AV} {R:AV→List Blk→Prop} {Rp:List PanicEntry→List Blk→Prop} (hb:fn.body=some c) (h:∀ K:List AV→Prop,(∀ sl,codeX P c sl m (mu P fn R Rp)→K sl)→argK args fn.ntmps K):iM P fn args m R Rp:=by
  unfold iM
  rw [hb]
  exact h _ fun _ h=>h
theorem ig (h:codeX P a sl m (jS P b Q)):codeX P (.seq a b) sl m Q:=h
theorem ej (h:codeX P a sl m (eU id Q)):codeX P (.block id a) sl m Q:=h
theorem eI {l:List Oper} (h:opsX P l.toArray l sl m Q):codeX P (.region id l.toArray false) sl m Q:=by
  simp only [codeX]
  exact h
theorem fi (h:Q .normal sl m):codeX P .skip sl m Q:=h
theorem fk (h:Q (.exit id) sl m):codeX P (.exit id) sl m Q:=h
theorem ii (h:Q .ret sl m):codeX P .ret sl m Q:=h
theorem fo {o:Operand} (h:∀ A B:Prop,(codeX P a sl m Q→A)→(codeX P b sl m Q→B)→evK sl o fun v=>match v with
    | .bool x=>NIf x A B
    | _=>False):codeX P (.cond o a b) sl m Q:=h _ _ (fun h=>h) (fun h=>h)
theorem fh (h:codeX P b sl m Q):jS P b Q .normal sl m:=h
theorem cj (h:Q (.exit j) sl m):jS P b Q (.exit j) sl m:=h
theorem dJ (h:Q .ret sl m):jS P b Q .ret sl m:=h
theorem cB (h:Q (.panic ch) sl m):jS P b Q (.panic ch) sl m:=h
theorem cI (h:Q (.panic ch) sl m):eU id Q (.panic ch) sl m:=h
theorem cG {α:Type} {ok:α→Prop} {s:α→List AV} {mm:α→List Blk} {μ:α→Nat} {x:α} (h:Q (.panic ch) sl m):bd ok s mm μ x Q (.panic ch) sl m:=h
theorem dZ {fn:Func} {R:AV→List Blk→Prop} {Rp:List PanicEntry→List Blk→Prop} {rs:List ResultVar} (hr:fn.results.toList=rs) (h:∀ K:AV→Prop,(∀ r,R r m→K r)→resK P m sl rs fun xs=>retK xs K):mu P fn R Rp .ret sl m:=by
  show resK P m sl fn.results.toList _
  rw [hr]
  exact h _ fun _ h=>h
theorem cH {fn:Func} {R:AV→List Blk→Prop} {Rp:List PanicEntry→List Blk→Prop} {rs:List ResultVar} (hr:fn.results.toList=rs) (h:∀ K:AV→Prop,(∀ r,R r m→K r)→resK P m sl rs fun xs=>retK xs K):mu P fn R Rp .normal sl m:=by
  show resK P m sl fn.results.toList _
  rw [hr]
  exact h _ fun _ h=>h
theorem cu {fn:Func} {R:AV→List Blk→Prop} {Rp:List PanicEntry→List Blk→Prop} (h:Rp ch m):mu P fn R Rp (.panic ch) sl m:=h
theorem oH {α:Type} (ok:α→Prop) (s:α→List AV) (mm:α→List Blk) (μ:α→Nat) (x:α) (hx:ok x) (hs:Qq sl (s x)) (hm:Qw m (mm x))
    (hround:∀ x,ok x→codeX P a (s x) (mm x) (bd ok s mm μ x Q)):codeX P (.loop a) sl m Q:=NLoop.by ok s mm μ (fun _=>⟨x,hx,hs,hm⟩) hround
theorem jY {α:Type} (ok:α→Prop) (us:α→List Up) (ms:α→List UpB) (μ:α→Nat) (x:α) (hx:ok x) (hs:Qq sl (bq sl (us x))) (hm:Qw m (autoM m (ms x)))
    (hround:∀ x,ok x→∀ K:List AV→List Blk→Prop,(∀ sl' m',codeX P a sl' m' (bd ok (fun x=>bq sl (us x)) (fun x=>autoM m (ms x)) μ x Q)→K sl' m')→fU sl (us x) fun sl'=>dB m (ms x) fun m'=>K sl' m'):codeX P (.loop a) sl m Q :=
  oH ok (fun x=>bq sl (us x)) (fun x=>autoM m (ms x)) μ x hx hs hm fun y hy=>by
    have h:=hround y hy (fun sl' m'=>codeX P a sl' m' (bd ok (fun x=>bq sl (us x)) (fun x=>autoM m (ms x)) μ y Q)) fun _ _ h=>h
    exact ap _ _ (bP _ _ h)
section
variable {ops:Array Oper} {rest:List Oper}
theorem ij (h:Q .normal sl m):opsX P ops [] sl m Q:=h
theorem k7 {d:Option Tmp} {op:Op} {t:TypeId} {p:String} {e:Array Edge} (h:∀ (K:List AV→List Blk→Prop) (Kp:List PanicEntry→List Blk→Prop),(∀ sl m,opsX P ops rest sl m Q→K sl m)→(∀ ch m,Q (.panic ch) sl m→Kp ch m)→opX P sl m op (fun v m'=>dstK sl d v fun sl'=>K sl' m') Kp) :
    opsX P ops (⟨d,op,t,p,e,none⟩::rest) sl m Q:=h _ _ (fun _ _ h=>h) fun _ _ h=>h
end
end
section
variable {P:Program} {l:List Oper} {n i:Nat} {done:List Nat} {sl:List AV} {m:List Blk} {Q:Post} {id:Nat}
def qZ (w0:World) (S:Own) (Q:Post):Exit→Act→World→Prop:=fun e a w=>∃ sl m,Q e sl m∧Sim w0 S sl m a w
@[irreducible] def eE (P:Program) (l:List Oper) (n:Nat) (done:List Nat) (sl:List AV) (m:List Blk) (Q:Post):Prop :=
  ∀ (w0:World) (S:Own) (a:Act) (w:World),Sim w0 S sl m a w→wpAny P .any l.toArray (qZ w0 S Q) n (aU l.length done) a w
@[irreducible] def dT (P:Program) (l:List Oper) (n:Nat) (done:List Nat) (sl:List AV) (m:List Blk) (Q:Post) (rs:List (Nat × Oper)):Prop :=
  ∀ x∈rs,∀ (w0:World) (S:Own) (a:Act) (w:World),Sim w0 S sl m a w→l.toArray[x.1]?=some x.2→wpOp P l.toArray (qZ w0 S Q) x.1 (wpAny P .any l.toArray (qZ w0 S Q) n (aU l.length (x.1::done))) a w
theorem rO (h:eE P l n done sl m Q):eE P l n done sl m Q:=h
theorem rG {rs:List (Nat × Oper)} (h:dT P l n done sl m Q rs):dT P l n done sl m Q rs:=h
theorem mc (h1:P.follows .mixedOrders=true) (n:Nat) (hn:l.length=n) (h:eE P l n [] sl m Q):codeX P (.region id l.toArray true) sl m Q:=by
  subst hn
  simp only [codeX]
  unfold jN
  intro id w0 S a w hs
  unfold eE at h
  refine wp_region_any h1 ?_
  have:=h w0 S a { w with drawn:=w.drawn+1 } ⟨hs.slots,hs.defers,hs.mem.keep (Nat.le_refl _) (fun _ _ _ _=>rfl),⟨hs.fr.os,hs.fr.tape,hs.fr.output,hs.fr.size,hs.fr.block⟩,hs.fresh⟩
  show wpAny P .any l.toArray (qZ w0 S Q) _ _ a _
  simpa [aU] using this
theorem oF {rs:List (Nat × Oper)} (hr:readys done 0 l=rs) (hc:fX l done rs=true) (hne:rs≠[]) (h:dT P l n done sl m Q rs):eE P l (n+1) done sl m Q:=by
  unfold eE
  intro w0 S a w hs
  have hc:Region.ready .any l.toArray (aU l.length done)=rs.map (·.1):=by simpa [fX] using hc
  unfold wpAny
  rw [hc]
  refine ⟨fun e=>(hne (by simpa using e)).elim,fun i hi=>?_⟩
  obtain ⟨x,hx,rfl⟩:=List.mem_map.1 hi
  obtain ⟨t,h1,h2⟩:=dF l 0 x (hr ▸ hx)
  unfold dT at h
  exact h x hx w0 S a w hs (by rw [h1];simpa using h2)
theorem oG (_hr:readys done 0 l=[]) (hc:fX l done []=true) (h:Q .normal sl m):eE P l n done sl m Q:=by
  unfold eE
  intro w0 S a w hs
  have hc:Region.ready .any l.toArray (aU l.length done)=[]:=by simpa [fX] using hc
  cases n with
  | zero=>exact ⟨hc,sl,m,h,hs⟩
  | succ n=>exact ⟨fun _=>⟨sl,m,h,hs⟩,by rw [hc];simp⟩
theorem mi:dT P l n done sl m Q []:=by unfold dT;intro x hx;cases hx
theorem jW {rs:List (Nat × Oper)} {d:Option Tmp} {op:Op} {t:TypeId} {p:String} {e:Array Edge}
    (h:∀ (K:List AV→List Blk→Prop) (Kp:List PanicEntry→List Blk→Prop),(∀ sl m,eE P l n (i::done) sl m Q→K sl m)→(∀ ch m,Q (.panic ch) sl m→Kp ch m)→opX P sl m op (fun v m'=>dstK sl d v fun sl'=>K sl' m') Kp) (hr:dT P l n done sl m Q rs):dT P l n done sl m Q ((i,⟨d,op,t,p,e,none⟩)::rs):=by
  unfold dT at *
  intro x hx
  rcases List.mem_cons.1 hx with rfl | hx
  · intro w0 S a w hs ho
    unfold wpOp
    simp only [ho]
    rw [if_pos (show Region.wanted ⟨d,op,t,p,e,none⟩ (yielded l.toArray a.tmps)=true from rfl)]
    refine .inl (jw hs.slots hs.mem hs.fr hs.fresh (o:=⟨d,op,t,p,e,none⟩) (h _ _ (fun _ _ h=>h) fun _ _ h=>h) (fun v m' w' hl=>?_) fun ch m' w' hl=>⟨sl,m',hl.k,hs.slots,hs.defers,hl.mem,hl.fr,hl.fresh⟩)
    obtain ⟨sl',h1,h2⟩:=aO hl.k hs.slots
    unfold eE at h1
    exact h1 w0 S _ _ (hs.step h2 hl.mem hl.fr hl.fresh)
  · exact hr x hx
end
theorem mZ {G G':Prop} (r:G') (h:bC G'→G:=by
  intro r
  (first|((first|((with_reducible refine gV ?_);(first|((with_reducible first|refine NV.quo ?s ?_|refine NV.rem ?s ?_|refine NV.i64 ?s ?_|refine NV.u32 ?s ?_|refine NV.u8 ?s ?_|refine NV.u64 ?s ?_);case s=>omega)|(with_reducible first|refine NV.divk ?_|refine NV.modk ?_|refine NV.keep ?_)))|((with_reducible refine gI ?_);(first|with_reducible refine NIf.not_ ?_|((with_reducible refine NIf.decY ?s ?_);case s=>first|with_reducible rfl|assumption|omega)|((with_reducible refine NIf.decN ?s ?_);case s=>first|with_reducible rfl|assumption|omega)|((with_reducible refine NIf.yes ?s ?_);case s=>first|rfl|assumption)|((with_reducible refine NIf.no ?s ?_);case s=>first|rfl|assumption)))|((with_reducible refine gN ?_);(with_reducible first|refine NN.lit ?_|refine NN.cast ?_|refine NN.a1 ?_|refine NN.a2 ?_|refine NN.a3 ?_|refine NN.a4 ?_|refine NN.a5 ?_|refine NN.a6 ?_|refine NN.keep ?_))|((with_reducible refine gH ?_);((with_reducible refine NH.mk ?s ?_);case s=>(and_intros<;>first|with_reducible rfl|((with_reducible refine fP ?_);rfl)|((with_reducible refine kM ?_);rfl)|omega|assumption|exact Nat.le_of_ble_eq_true rfl|(simp only [List.length_append,List.length_cons,List.length_nil];omega)|rfl)))|(with_reducible refine NS.keep ?_)|(with_reducible refine NLd.of (by with_reducible assumption) ?_))<;>(conv=>whnf))|((refine bL.2 ⟨⟨?s1,?s2⟩,?_⟩;(case s1=>decide +kernel);(case s2=>decide +kernel))<;>(conv=>whnf)))
  exact r.go):G:=h ⟨r⟩
theorem q9 {G G':Prop} (r:G') (h:bC G'→G:=by
  intro r
  (first|((with_reducible refine gO ?_);(with_reducible first|refine z25 ?_|refine z26 ?_))|((with_reducible refine gP ?_);(with_reducible first|refine z27 ?_|refine z28 ?_))|((with_reducible refine gR ?_);(first|refine z31 rfl ?_|refine z32 rfl ?_))|((with_reducible refine gF ?_);(refine z33 rfl ?_))|((with_reducible refine gRX ?_);(first|refine dZ rfl ?_|refine cH rfl ?_))|((with_reducible refine gFX ?_);(refine fj rfl ?_)))
  exact r.go):G:=h ⟨r⟩
theorem q8 {G G':Prop} (r:G') (h:bC G'→G:=by
  intro r
  (first|((with_reducible refine gOX ?_);(with_reducible first|refine k7 ?_|refine st_opXg ?_)))
  exact r.go):G:=h ⟨r⟩
theorem q7 {G G':Prop} (r:G') (h:bC G'→G:=by
  intro r
  (first|((with_reducible refine gO ?_);(with_reducible first|refine z0 ?_))|((with_reducible refine gP ?_);(with_reducible first|refine z24 ?_))|((with_reducible refine gX ?_);(with_reducible first|refine z3 ?_|refine z4 ?_|refine z5 ?_|refine z6 ?_|refine z7 ?_|refine z8 ?_|refine z14 ?_|refine z15 ?_))|(with_reducible first|refine z1 ?_|refine z2 ?_|refine z9 ?_|refine z10 ?_|refine z11 ?_|refine z12 ?_|refine z13 ?_|refine z16 ?_|refine z17 ?_|refine z18 ?_|refine z19 ?_|refine z20 ?_|refine z21 ?_|refine z22 ?_|refine z23 ?_|refine fh ?_|refine cj ?_|refine dJ ?_|refine cB ?_|refine cI ?_|refine st_scope_panic ?_|refine cG ?_)|((with_reducible refine gB ?_);(refine z30 (by decide) ?_))|((with_reducible refine gOX ?_);(with_reducible first|refine ij ?_))|((with_reducible refine gXX ?_);(with_reducible first|refine ig ?_|refine eI ?_|refine ej ?_|refine fi ?_|refine fk ?_|refine ii ?_|refine st_scopeX ?_|refine st_labelX ?_))|((with_reducible refine gRX ?_);(with_reducible refine cu ?_)))
  exact r.go):G:=h ⟨r⟩
theorem rA {G G':Prop} (r:G') (h:bC G'→G:=by
  intro r
  (first|((with_reducible refine gX ?_);(with_reducible refine z29 ?_))|((with_reducible refine gXX ?_);(with_reducible refine fo ?_)))
  exact r.go):G:=h ⟨r⟩
theorem cX {P:Program} {f:FuncId} {args:List AV} {m:List Blk} {K KL:AV→List Blk→Prop} {Kp KpL:List PanicEntry→List Blk→Prop} (idx:List Nat) {args':List AV} {mL:List Blk} (h:aH P f args' mL KL KpL) (hargs:denL args'=denL args)
    (hmL:idx.map (fun i=>m[i]?)=mL.map some) (hK:∀ r bs,KL r bs→Nat.ble idx.length bs.length=true∧∃ r',r'.den=r.den∧db m idx bs (K r')) (hP:∀ ch bs,KpL ch bs→Nat.ble idx.length bs.length=true∧db m idx bs (Kp ch)) (hn:idx.Nodup:=by decide):aH P f args m K Kp :=
  aH.subw idx args' mL h hargs hn hmL (fun r bs hr=>⟨Nat.le_of_ble_eq_true (hK r bs hr).1,(hK r bs hr).2⟩) fun ch bs hr=>⟨Nat.le_of_ble_eq_true (hP ch bs hr).1,(hP ch bs hr).2⟩
theorem ah {G G':Prop} (r:G') (h:bC G'→G:=by
  intro r
  repeat1' (first|(with_reducible first|(refine hK _ _ ?_;try clear hP hK Kp K)|(refine hA ?_;try clear hA hB A B)|(refine hB ?_;try clear hA hB A B)|(refine hK _ ?_;try clear hK K)|(refine hP _ _ ?_;try clear hP hK Kp K))|(intro K hK;first|(with_reducible first|refine hK _ _ ?_|refine hK _ ?_)|refine mZ ?_)|(intro K Kp hK hP;first|(with_reducible refine hK _ _ ?_)|refine mZ ?_)|((first|((with_reducible refine gV ?_);(first|((with_reducible first|refine NV.quo ?s ?_|refine NV.rem ?s ?_|refine NV.i64 ?s ?_|refine NV.u32 ?s ?_|refine NV.u8 ?s ?_|refine NV.u64 ?s ?_);case s=>omega)|(with_reducible first|refine NV.divk ?_|refine NV.modk ?_|refine NV.keep ?_)))|((with_reducible refine gI ?_);(first|with_reducible refine NIf.not_ ?_|((with_reducible refine NIf.decY ?s ?_);case s=>first|with_reducible rfl|assumption|omega)|((with_reducible refine NIf.decN ?s ?_);case s=>first|with_reducible rfl|assumption|omega)|((with_reducible refine NIf.yes ?s ?_);case s=>first|rfl|assumption)|((with_reducible refine NIf.no ?s ?_);case s=>first|rfl|assumption)))|((with_reducible refine gN ?_);(with_reducible first|refine NN.lit ?_|refine NN.cast ?_|refine NN.a1 ?_|refine NN.a2 ?_|refine NN.a3 ?_|refine NN.a4 ?_|refine NN.a5 ?_|refine NN.a6 ?_|refine NN.keep ?_))|((with_reducible refine gH ?_);((with_reducible refine NH.mk ?s ?_);case s=>(and_intros<;>first|with_reducible rfl|((with_reducible refine fP ?_);rfl)|((with_reducible refine kM ?_);rfl)|omega|assumption|exact Nat.le_of_ble_eq_true rfl|(simp only [List.length_append,List.length_cons,List.length_nil];omega)|rfl)))|(with_reducible refine NS.keep ?_)|(with_reducible refine NLd.of (by with_reducible assumption) ?_))<;>(conv=>whnf))|((first|((with_reducible refine gO ?_);(with_reducible first|refine z25 ?_|refine z26 ?_))|((with_reducible refine gP ?_);(with_reducible first|refine z27 ?_|refine z28 ?_))|((with_reducible refine gR ?_);(first|refine z31 rfl ?_|refine z32 rfl ?_))|((with_reducible refine gF ?_);(refine z33 rfl ?_))|((with_reducible refine gRX ?_);(first|refine dZ rfl ?_|refine cH rfl ?_))|((with_reducible refine gFX ?_);(refine fj rfl ?_)));intro K hK;conv=>whnf)|((first|((with_reducible refine gOX ?_);(with_reducible first|refine k7 ?_|refine st_opXg ?_)));intro K Kp hK hP;conv=>whnf)|((with_reducible refine gO ?_);(with_reducible first|refine z0 ?_))|((with_reducible refine gP ?_);(with_reducible first|refine z24 ?_))|((with_reducible refine gX ?_);(with_reducible first|refine z3 ?_|refine z4 ?_|refine z5 ?_|refine z6 ?_|refine z7 ?_|refine z8 ?_|refine z14 ?_|refine z15 ?_))|(with_reducible first|refine z1 ?_|refine z2 ?_|refine z9 ?_|refine z10 ?_|refine z11 ?_|refine z12 ?_|refine z13 ?_|refine z16 ?_|refine z17 ?_|refine z18 ?_|refine z19 ?_|refine z20 ?_|refine z21 ?_|refine z22 ?_|refine z23 ?_|refine fh ?_|refine cj ?_|refine dJ ?_|refine cB ?_|refine cI ?_|refine st_scope_panic ?_|refine cG ?_)|((with_reducible refine gB ?_);(refine z30 (by decide) ?_))|((with_reducible refine gOX ?_);(with_reducible first|refine ij ?_))|((with_reducible refine gXX ?_);(with_reducible first|refine ig ?_|refine eI ?_|refine ej ?_|refine fi ?_|refine fk ?_|refine ii ?_|refine st_scopeX ?_|refine st_labelX ?_))|((with_reducible refine gRX ?_);(with_reducible refine cu ?_))|((with_reducible refine gXX ?_);(refine st_drawX ?_))|((with_reducible refine gX ?_);(refine z34 (by kernel_rfl) (by kernel_rfl) ?_))|((first|((with_reducible refine gX ?_);(with_reducible refine z29 ?_))|((with_reducible refine gXX ?_);(with_reducible refine fo ?_)));intro A B hA hB;conv=>whnf)|((refine bL.2 ⟨⟨?s1,?s2⟩,?_⟩;(case s1=>decide +kernel);(case s2=>decide +kernel))<;>(conv=>whnf)))
  (first|exact r.go|(revert K hK;exact r.go)|(revert A B hA hB;exact r.go)|(revert K Kp hK hP;exact r.go))):G:=h ⟨r⟩
theorem qh {G G':Prop} (r:G') (h:bC G'→G:=by
  intro r
  repeat1' (first|(with_reducible first|(refine hK _ _ ?_;try clear hP hK Kp K)|(refine hA ?_;try clear hA hB A B)|(refine hB ?_;try clear hA hB A B)|(refine hK _ ?_;try clear hK K)|(refine hP _ _ ?_;try clear hP hK Kp K))|(intro K hK;first|(with_reducible first|refine hK _ _ ?_|refine hK _ ?_)|refine mZ ?_)|(intro K Kp hK hP;first|(with_reducible refine hK _ _ ?_)|refine mZ ?_)|((first|((with_reducible refine gV ?_);(first|((with_reducible first|refine NV.quo ?s ?_|refine NV.rem ?s ?_|refine NV.i64 ?s ?_|refine NV.u32 ?s ?_|refine NV.u8 ?s ?_|refine NV.u64 ?s ?_);case s=>omega)|(with_reducible first|refine NV.divk ?_|refine NV.modk ?_|refine NV.keep ?_)))|((with_reducible refine gI ?_);(first|with_reducible refine NIf.not_ ?_|((with_reducible refine NIf.decY ?s ?_);case s=>first|with_reducible rfl|assumption|omega)|((with_reducible refine NIf.decN ?s ?_);case s=>first|with_reducible rfl|assumption|omega)|((with_reducible refine NIf.yes ?s ?_);case s=>first|rfl|assumption)|((with_reducible refine NIf.no ?s ?_);case s=>first|rfl|assumption)))|((with_reducible refine gN ?_);(with_reducible first|refine NN.lit ?_|refine NN.cast ?_|refine NN.a1 ?_|refine NN.a2 ?_|refine NN.a3 ?_|refine NN.a4 ?_|refine NN.a5 ?_|refine NN.a6 ?_|refine NN.keep ?_))|((with_reducible refine gH ?_);((with_reducible refine NH.mk ?s ?_);case s=>(and_intros<;>first|with_reducible rfl|((with_reducible refine fP ?_);rfl)|((with_reducible refine kM ?_);rfl)|omega|assumption|exact Nat.le_of_ble_eq_true rfl|(simp only [List.length_append,List.length_cons,List.length_nil];omega)|rfl)))|(with_reducible refine NS.keep ?_)|(with_reducible refine NLd.of (by with_reducible assumption) ?_))<;>(conv=>whnf))|((first|((with_reducible refine gO ?_);(with_reducible first|refine z25 ?_|refine z26 ?_))|((with_reducible refine gP ?_);(with_reducible first|refine z27 ?_|refine z28 ?_))|((with_reducible refine gR ?_);(first|refine z31 rfl ?_|refine z32 rfl ?_))|((with_reducible refine gF ?_);(refine z33 rfl ?_))|((with_reducible refine gRX ?_);(first|refine dZ rfl ?_|refine cH rfl ?_))|((with_reducible refine gFX ?_);(refine fj rfl ?_)));intro K hK;conv=>whnf)|((first|((with_reducible refine gOX ?_);(with_reducible first|refine k7 ?_|refine st_opXg ?_)));intro K Kp hK hP;conv=>whnf)|((with_reducible refine gO ?_);(with_reducible first|refine z0 ?_))|((with_reducible refine gP ?_);(with_reducible first|refine z24 ?_))|((with_reducible refine gX ?_);(with_reducible first|refine z3 ?_|refine z4 ?_|refine z5 ?_|refine z6 ?_|refine z7 ?_|refine z8 ?_|refine z14 ?_|refine z15 ?_))|(with_reducible first|refine z1 ?_|refine z2 ?_|refine z9 ?_|refine z10 ?_|refine z11 ?_|refine z12 ?_|refine z13 ?_|refine z16 ?_|refine z17 ?_|refine z18 ?_|refine z19 ?_|refine z20 ?_|refine z21 ?_|refine z22 ?_|refine z23 ?_|refine fh ?_|refine cj ?_|refine dJ ?_|refine cB ?_|refine cI ?_|refine st_scope_panic ?_|refine cG ?_)|((with_reducible refine gB ?_);(refine z30 (by decide) ?_))|((with_reducible refine gOX ?_);(with_reducible first|refine ij ?_))|((with_reducible refine gXX ?_);(with_reducible first|refine ig ?_|refine eI ?_|refine ej ?_|refine fi ?_|refine fk ?_|refine ii ?_|refine st_scopeX ?_|refine st_labelX ?_))|((with_reducible refine gRX ?_);(with_reducible refine cu ?_))|((with_reducible refine gXX ?_);(refine mc (by kernel_rfl) _ rfl ?_))|((with_reducible refine gX ?_);(refine z34 (by kernel_rfl) (by kernel_rfl) ?_))|((with_reducible refine rO ?_);(first|(refine oG rfl (by kernel_rfl) ?_)|(refine oF rfl (by kernel_rfl) (by intro h;cases h) ?_)))|((with_reducible refine rG ?_);(refine jW ?_ mi;intro K Kp hK hP;conv=>whnf))|((first|((with_reducible refine gX ?_);(with_reducible refine z29 ?_))|((with_reducible refine gXX ?_);(with_reducible refine fo ?_)));intro A B hA hB;conv=>whnf)|((refine bL.2 ⟨⟨?s1,?s2⟩,?_⟩;(case s1=>decide +kernel);(case s2=>decide +kernel))<;>(conv=>whnf)))
  (first|exact r.go|(revert K hK;exact r.go)|(revert A B hA hB;exact r.go)|(revert K Kp hK hP;exact r.go))):G:=h ⟨r⟩
theorem qg {G A' B':Prop} (ra:A') (rb:B') (h:bC A'→bC B'→G:=by
  intro ra rb
  (with_reducible refine rG ?_);refine jW ?_ ?_;(intro K Kp hK hP;(conv=>whnf);revert K Kp hK hP;exact ra.go);exact rb.go):G:=h ⟨ra⟩ ⟨rb⟩
end Go.Sx
namespace Go.Proofs.YtmehinfgdcmmjaaGreatDoor
open Go.Sx
set_option linter.unusedVariables false
namespace Lx
def isSp (c:UInt8):Bool:=c == 32||c == 9||c == 10
def isL (c:UInt8):Bool:=decide (97≤c.toNat)&&decide (c.toNat≤122)
def isD (c:UInt8):Bool:=decide (48≤c.toNat)&&decide (c.toNat≤57)
def isS (c:UInt8):Bool:=c == 40||c == 41||c == 59||c == 124||c == 61
def notNl (c:UInt8):Bool:=!(c == 10)
theorem tw_all {p:UInt8→Bool}:∀ {l:List UInt8} {x:UInt8},x∈l.takeWhile p→p x=true
  | [],_,h=>by simp at h
  | c::l,x,h=>by
    by_cases hc:p c=true
    · rw [List.takeWhile_cons_of_pos hc] at h
      rcases List.mem_cons.1 h with e | h
      · rw [e];exact hc
      · exact tw_all h
    · rw [List.takeWhile_cons_of_neg hc] at h;cases h
theorem tw_ext {p:UInt8→Bool}:∀ {a r:List UInt8},(∀ x∈a,p x=true)→(∀ c t,r=c::t→p c=false)→(a++r).takeWhile p=a∧(a++r).dropWhile p=r
  | [],[],_,_=>⟨rfl,rfl⟩
  | [],c::r,_,h=>by
    have:=h c r rfl
    constructor
    · rw [List.nil_append,List.takeWhile_cons_of_neg (by rw [this];decide)]
    · rw [List.nil_append,List.dropWhile_cons_of_neg (by rw [this];decide)]
  | x::a,r,h,h2=>by
    have hx:=h x (by simp)
    have ih:=tw_ext (a:=a) (r:=r) (fun y hy=>h y (List.mem_cons_of_mem _ hy)) h2
    constructor
    · rw [List.cons_append,List.takeWhile_cons_of_pos hx,ih.1]
    · rw [List.cons_append,List.dropWhile_cons_of_pos hx,ih.2]
theorem dw_head {p:UInt8→Bool}:∀ {l:List UInt8} {c:UInt8} {t:List UInt8},l.dropWhile p=c::t→p c=false
  | [],_,_,h=>by simp at h
  | x::l,c,t,h=>by
    by_cases hx:p x=true
    · rw [List.dropWhile_cons_of_pos hx] at h;exact dw_head h
    · rw [List.dropWhile_cons_of_neg hx] at h
      injection h with h1 _
      rw [← h1];simpa using hx
theorem dw_len {p:UInt8→Bool} (l:List UInt8):(l.dropWhile p).length≤l.length:=by
  have:=congrArg List.length (List.takeWhile_append_dropWhile (p:=p) (l:=l))
  simp only [List.length_append] at this
  omega
def skip (t:List UInt8):List UInt8 :=
  match h:t.dropWhile isSp with
  | []=>[]
  | c::r=>if c=35 then skip (r.dropWhile notNl) else c::r
termination_by t.length
decreasing_by
  have h1:=dw_len (p:=isSp) t
  have h2:=dw_len (p:=notNl) r
  rw [h] at h1
  simp only [List.length_cons] at h1
  omega
theorem skip_nil {t:List UInt8} (h:t.dropWhile isSp=[]):skip t=[]:=by
  rw [skip]
  split
  · rfl
  · rename_i e;rw [h] at e;cases e
theorem skip_cons {t r:List UInt8} {c:UInt8} (h:t.dropWhile isSp=c::r):skip t=if c=35 then skip (r.dropWhile notNl) else c::r:=by
  rw [skip]
  split
  · rename_i e;rw [h] at e;cases e
  · rename_i c' r' e
    rw [h] at e
    injection e with e1 e2
    rw [e1,e2]
theorem skip_len:∀ (n:Nat) (t:List UInt8),t.length≤n→(skip t).length≤t.length
  | 0,t,h=>by
    have:t=[]:=List.eq_nil_of_length_eq_zero (by omega)
    subst this
    rw [skip_nil rfl];exact Nat.le_refl _
  | n+1,t,h=>by
    have h1:=dw_len (p:=isSp) t
    cases hd:t.dropWhile isSp with
    | nil=>rw [skip_nil hd];simp
    | cons c r =>
      rw [hd] at h1
      simp only [List.length_cons] at h1
      rw [skip_cons hd]
      split
      · have h2:=dw_len (p:=notNl) r
        have:=skip_len n (r.dropWhile notNl) (by omega)
        omega
      · simp only [List.length_cons];omega
theorem skip_split:∀ (n:Nat) (t:List UInt8),t.length≤n→skip t≠[]→∃ b,t=b++skip t∧∀ y,(∀ c r,y=c::r→isSp c=false∨True)→skip (b++y)=skip y
  | 0,t,h,hne=>by
    have:t=[]:=List.eq_nil_of_length_eq_zero (by omega)
    subst this
    rw [skip_nil rfl] at hne
    exact (hne rfl).elim
  | n+1,t,h,hne=>by
    have ht:=List.takeWhile_append_dropWhile (p:=isSp) (l:=t)
    have hall:∀ x∈t.takeWhile isSp,isSp x=true:=fun x hx=>tw_all hx
    have h1:=dw_len (p:=isSp) t
    have key:∀ (a y:List UInt8),(∀ x∈a,isSp x=true)→skip (a++y)=skip y:=by
      intro a y ha
      have e:(a++y).dropWhile isSp=y.dropWhile isSp:=by
        induction a with
        | nil=>rfl
        | cons x a ih=>rw [List.cons_append,List.dropWhile_cons_of_pos (ha x (by simp))];exact ih fun z hz=>ha z (List.mem_cons_of_mem _ hz)
      cases hy:y.dropWhile isSp with
      | nil=>rw [skip_nil (e.trans hy),skip_nil hy]
      | cons c r=>rw [skip_cons (e.trans hy),skip_cons hy]
    cases hd:t.dropWhile isSp with
    | nil=>rw [skip_nil hd] at hne;exact (hne rfl).elim
    | cons c r =>
      rw [hd] at h1
      simp only [List.length_cons] at h1
      have hs:=skip_cons hd
      by_cases hc:c=35
      · rw [if_pos hc] at hs
        have h2:=dw_len (p:=notNl) r
        have hr:=List.takeWhile_append_dropWhile (p:=notNl) (l:=r)
        rw [hs] at hne
        cases hd2:r.dropWhile notNl with
        | nil =>
          rw [hd2,skip_nil rfl] at hne
          exact (hne rfl).elim
        | cons d r2 =>
          have hnl:d=10:=by
            have:=dw_head hd2
            unfold notNl at this
            simpa using this
          have h3:(r.dropWhile notNl).length≤n:=by omega
          obtain ⟨b,hb,hy⟩:=skip_split n (r.dropWhile notNl) h3 hne
          refine ⟨t.takeWhile isSp++(c::(r.takeWhile notNl++b)),?_,fun y hyy=>?_⟩
          · rw [hs,List.append_assoc,List.cons_append,List.append_assoc,← hb,hr,← hd,ht]
          · rw [List.append_assoc,key _ _ hall]
            have hbne:b≠[]∨skip (r.dropWhile notNl)=r.dropWhile notNl:=by
              by_cases e:b=[]
              · right;rw [e] at hb;exact hb.symm
              · exact .inl e
            have hsp:isSp d=true:=by rw [hnl];decide
            have hbn:b≠[]:=by
              rcases hbne with h | h
              · exact h
              · intro e
                have e2:skip (d::r2)=d::r2:=by rw [← hd2];exact h
                have e3:=key [d] r2 (fun x hx=>by rw [List.mem_singleton.1 hx];exact hsp)
                have e4:=skip_len r2.length r2 (Nat.le_refl _)
                have e5:(skip (d::r2)).length≤r2.length:=by
                  have:skip (d::r2)=skip r2:=e3
                  rw [this];exact e4
                rw [e2] at e5
                simp only [List.length_cons] at e5
                omega
            obtain ⟨b0,b1,rfl⟩:∃ b0 b1,b=b0::b1:=by
              cases b with
              | nil=>exact (hbn rfl).elim
              | cons b0 b1=>exact ⟨_,_,rfl⟩
            have hb0:b0=d:=by
              rw [hd2] at hb
              injection hb with e _
              exact e.symm
            have ew:(r.takeWhile notNl++(b0::b1)++y).dropWhile notNl=b0::b1++y:=by
              rw [List.append_assoc]
              refine (tw_ext (fun x hx=>tw_all hx) fun c' t' e=>?_).2
              rw [List.cons_append] at e
              injection e with e _
              rw [← e,hb0,hnl];decide
            have ed:(c::(r.takeWhile notNl++(b0::b1))++y).dropWhile isSp=c::(r.takeWhile notNl++(b0::b1)++y):=by
              rw [List.cons_append,List.dropWhile_cons_of_neg]
              rw [hc];decide
            rw [skip_cons ed,if_pos hc,ew]
            exact hy y hyy
      · rw [if_neg hc] at hs
        refine ⟨t.takeWhile isSp,?_,fun y _=>key _ _ hall⟩
        rw [hs,← hd,ht]
structure B where
  k:Int
  n:Int
  s:List UInt8
def num (d:List UInt8):Nat:=d.foldl (fun n c=>10*n+(c.toNat - 48)) 0
def nextB:List UInt8→Option (B × Nat)
  | []=>none
  | c::r =>
    if isL c=true then some (⟨1,0,(c::r).takeWhile isL⟩,((c::r).takeWhile isL).length)
    else if isD c=true then
      (if 3<((c::r).takeWhile isD).length∨(1<((c::r).takeWhile isD).length∧c=48) then none
       else some (⟨2,num ((c::r).takeWhile isD),[]⟩,((c::r).takeWhile isD).length))
    else if c=58∧r.head?=some 61 then some (⟨3,0,[58,61]⟩,2)
    else if isS c=true then some (⟨3,0,[c]⟩,1)
    else none
theorem nextB_eq (c:UInt8) (r:List UInt8):nextB (c::r) =
    if isL c=true then some (⟨1,0,(c::r).takeWhile isL⟩,((c::r).takeWhile isL).length)
    else if isD c=true then
      (if 3<((c::r).takeWhile isD).length∨(1<((c::r).takeWhile isD).length∧c=48) then none
       else some (⟨2,num ((c::r).takeWhile isD),[]⟩,((c::r).takeWhile isD).length))
    else if c=58∧r.head?=some 61 then some (⟨3,0,[58,61]⟩,2)
    else if isS c=true then some (⟨3,0,[c]⟩,1)
    else none:=rfl
theorem tw_take (p:UInt8→Bool) (l:List UInt8):l.take (l.takeWhile p).length=l.takeWhile p∧l.drop (l.takeWhile p).length=l.dropWhile p:=by
  have ht:=List.takeWhile_append_dropWhile (p:=p) (l:=l)
  have h1:=List.take_left (l₁:=l.takeWhile p) (l₂:=l.dropWhile p)
  have h2:=List.drop_left (l₁:=l.takeWhile p) (l₂:=l.dropWhile p)
  rw [ht] at h1 h2
  exact ⟨h1,h2⟩
theorem nextB_pos {t:List UInt8} {b:B} {n:Nat} (h:nextB t=some (b,n)):1≤n∧n≤t.length:=by
  cases t with
  | nil=>cases h
  | cons c r =>
    rw [nextB_eq] at h
    have hl:∀ p:UInt8→Bool,((c::r).takeWhile p).length≤(c::r).length:=fun p=>by
      have:=congrArg List.length (List.takeWhile_append_dropWhile (p:=p) (l:=c::r))
      simp only [List.length_append] at this
      omega
    split at h
    · rename_i hc
      injection h with h;injection h with _ h
      have:=hl isL
      rw [← h]
      refine ⟨?_,this⟩
      rw [List.takeWhile_cons_of_pos hc];simp
    split at h
    · rename_i hc
      split at h
      · cases h
      injection h with h;injection h with _ h
      have:=hl isD
      rw [← h]
      refine ⟨?_,this⟩
      rw [List.takeWhile_cons_of_pos hc];simp
    split at h
    · rename_i hc
      injection h with h;injection h with _ h
      rw [← h]
      cases r with
      | nil=>simp at hc
      | cons d r=>simp
    split at h
    · injection h with h;injection h with _ h
      rw [← h];simp
    · cases h
def toks (t:List UInt8):Option (List (B × List UInt8)) :=
  match h:skip t with
  | []=>some []
  | c::r =>
    match h2:nextB (c::r) with
    | none=>none
    | some (b,n)=>(toks ((c::r).drop n)).map ((b,c::r)::·)
termination_by t.length
decreasing_by
  have h1:=skip_len t.length t (Nat.le_refl _)
  rw [h] at h1
  have h3:=nextB_pos h2
  rw [List.length_drop]
  simp only [List.length_cons] at *
  omega
theorem toks_nil {t:List UInt8} (h:skip t=[]):toks t=some []:=by
  rw [toks]
  split
  · rfl
  · rename_i e;rw [h] at e;cases e
theorem toks_none {t:List UInt8} (h:skip t≠[]) (h2:nextB (skip t)=none):toks t=none:=by
  rw [toks]
  split
  · rename_i e;exact (h e).elim
  · rename_i c r e
    split
    · rfl
    · rename_i b n e2
      rw [e] at h2
      rw [h2] at e2;cases e2
theorem toks_cons {t:List UInt8} {b:B} {n:Nat} (h:skip t≠[]) (h2:nextB (skip t)=some (b,n)):toks t=(toks ((skip t).drop n)).map ((b,skip t)::·):=by
  rw [toks]
  split
  · rename_i e;exact (h e).elim
  · rename_i c r e
    split
    · rename_i e2
      rw [e] at h2
      rw [h2] at e2;cases e2
    · rename_i b' n' e2
      rw [e] at h2 ⊢
      rw [h2] at e2
      injection e2 with e2
      injection e2 with e3 e4
      subst e3 e4
      rfl
theorem skip_id {c:UInt8} {r:List UInt8} (h:isSp c=false) (h2:c≠35):skip (c::r)=c::r:=by
  have e:(c::r).dropWhile isSp=c::r:=List.dropWhile_cons_of_neg (by rw [h];decide)
  rw [skip_cons e,if_neg h2]
theorem toks_skip {t y:List UInt8} (h:skip t=skip y):toks t=toks y:=by
  by_cases hn:skip y=[]
  · rw [toks_nil hn,toks_nil (h.trans hn)]
  · cases h2:nextB (skip y) with
    | none=>rw [toks_none hn h2,toks_none (by rw [h];exact hn) (by rw [h];exact h2)]
    | some q =>
      obtain ⟨b,n⟩:=q
      rw [toks_cons hn h2,toks_cons (by rw [h];exact hn) (by rw [h];exact h2),h]
end Lx
set_option maxRecDepth 20000
set_option linter.unusedSimpArgs false
namespace Lx
theorem tw_idx (p:UInt8→Bool):∀ (t:List UInt8),(∀ k,k<(t.takeWhile p).length→k<t.length∧p (t.getD k 0)=true)∧((t.takeWhile p).length=t.length∨((t.takeWhile p).length<t.length∧p (t.getD (t.takeWhile p).length 0)=false))
  | []=>⟨fun k h=>by simp at h,.inl rfl⟩
  | c::t=>by
    obtain ⟨h1,h2⟩:=tw_idx p t
    by_cases hc:p c=true
    · rw [List.takeWhile_cons_of_pos hc]
      refine ⟨fun k hk=>?_,?_⟩
      · cases k with
        | zero=>exact ⟨by simp,by simpa using hc⟩
        | succ k =>
          simp only [List.length_cons] at hk ⊢
          obtain ⟨a,b⟩:=h1 k (by omega)
          exact ⟨by omega,by simpa using b⟩
      · simp only [List.length_cons]
        rcases h2 with h | ⟨h,h'⟩
        · exact .inl (by omega)
        · exact .inr ⟨by omega,by simpa using h'⟩
    · rw [List.takeWhile_cons_of_neg hc]
      exact ⟨fun k hk=>by simp at hk,.inr ⟨by simp,by simpa using hc⟩⟩
theorem getD_drop (l:List UInt8) (i k:Nat):(l.drop i).getD k 0=l.getD (i+k) 0:=by simp [List.getD]
def wl (p:UInt8→Bool) (s:List UInt8) (i:Nat):Nat:=((s.drop i).takeWhile p).length
theorem wl_le (p:UInt8→Bool) (s:List UInt8) (i:Nat) (hi:i≤s.length):i+wl p s i≤s.length:=by
  have:=congrArg List.length (List.takeWhile_append_dropWhile (p:=p) (l:=s.drop i))
  simp only [List.length_append,List.length_drop] at this
  unfold wl
  omega
end Lx
def LB (a:Addr) (s:List UInt8) (i:Nat):Blk:=⟨a,[.str s,.int .i64 i],.var 242⟩
set_option maxHeartbeats 1000000 in
theorem fc (f:FuncId) (p:UInt8→Bool) (hf:∀ c:UInt8,Qz Tryz.prog f [.int .u8 c.toNat] [] fun r _=>r = .bool (p c)) (a:Addr) (tx:List UInt8) (i:Nat) (hi:i≤tx.length) (hs:tx.length≤10000) :
    Qz Tryz.prog 208 [.ptr 0 a 0,.fn f [] []] [LB a tx i] fun r m=>r = .str ((tx.drop i).takeWhile p)∧m=[LB a tx (i+Lx.wl p tx i)]:=by
  obtain ⟨h1,h2⟩:=Lx.tw_idx p (tx.drop i)
  have hle:=Lx.wl_le p tx i hi
  have ht:(tx.drop i).take (Lx.wl p tx i)=(tx.drop i).takeWhile p:=(Lx.tw_take _ _).1
  have h1':∀ j,i≤j→j<i+Lx.wl p tx i→p (tx.getD j 0)=true:=fun j hj hj2=>by
    have:=(h1 (j - i) (by unfold Lx.wl at hj2;omega)).2
    rw [Lx.getD_drop,show i+(j - i)=j by omega] at this
    exact this
  have h2':i+Lx.wl p tx i=tx.length∨(i+Lx.wl p tx i<tx.length∧p (tx.getD (i+Lx.wl p tx i) 0)=false):=by
    rcases h2 with h | ⟨h,h'⟩
    · left;rw [List.length_drop] at h;unfold Lx.wl;omega
    · right
      rw [List.length_drop] at h
      rw [Lx.getD_drop] at h'
      exact ⟨by unfold Lx.wl;omega,h'⟩
  clear h1 h2
  generalize Lx.wl p tx i=w at *
  generalize (tx.drop i).takeWhile p=res at *
  refine aB Tryz.func208 rfl (by decide) ?_
  unfold LB
  repeat' first|(refine sxZ ?_;try clear hK K)|refine sxW ?_ ?_<;>intro _|(intro K hK _;conv=>whnf)
  refine aE (α:=Nat) (fun j=>i≤j∧j≤i+w) (fun j=>[.k,.k,.k,.k,.k,.k,.k,.k,.k,.k,.d,.d,.d,.d,.d,.d,.d,.d,.d,.d,.d,.d,.d,.d,.d,.d,.d,.d,.d,.d,.d,.d,.d,.d,.d,.d,.d,.d,.d,.d,.k,.k,.k,.k,.k,.k,.k,.k,.k,.k]) (fun j=>[.cells [.str tx,.int .i64 j]]) (fun j=>i+w - j) i ⟨Nat.le_refl _,by omega⟩ ?_ ?_ ?_
  · exact aD
  · exact Qw.eq rfl
  (intro j ⟨hj1,hj2⟩;intro K hK;(conv=>whnf);refine hK _ _ ?_;clear hK K)
  by_cases hlt:j<i+w
  · have hp:=h1' j hj1 hlt
    have hc:=hf (tx.getD j 0)
    rw [hp] at hc
    repeat' first|((try intro K hK);(with_reducible refine gQ ?_);refine NCallQ.pureEq hc ?_;conv=>whnf)|(refine sxZ ?_;try clear hK K)|refine sxW ?_ ?_<;>intro _|(intro K hK _;conv=>whnf)
    refine aC (j+1) ⟨by omega,by omega⟩ (by omega) ?_ (Qw.eq rfl)
    exact aD
  · have e:j=i+w:=by omega
    subst e
    have e2:i+w - i=w:=by omega
    have hns:(tx.drop i).take (i+w - i)=res:=by rw [e2,ht]
    rcases h2' with h | ⟨h,hp⟩
    · (repeat' (first|(with_reducible first|(refine hK _ _ ?_;clear hK K)|(refine hA ?_;clear hA hB A B)|(refine hB ?_;clear hA hB A B)|(refine hK _ ?_;clear hK K))|((with_reducible refine NS.eq (hns) ?_)<;>(conv=>whnf))|refine dY ?_|refine eF ?_|((with_reducible refine gX ?_);refine z34 (by kernel_rfl) (by kernel_rfl) ?_)|(refine eG ?_;intro K hK;conv=>whnf)|(refine eH ?_;intro A B hA hB;conv=>whnf)|((with_reducible first|refine NIf.dec (fun _=>?_) (fun _=>?_)|refine NIf.both (fun _=>?_) (fun _=>?_))<;>(conv=>whnf))|((intro _;skip)<;>(conv=>whnf))))
      all_goals exact ⟨rfl,rfl⟩
    · have hc:=hf (tx.getD (i+w) 0)
      rw [hp] at hc
      (repeat' (first|(with_reducible first|(refine hK _ _ ?_;clear hK K)|(refine hA ?_;clear hA hB A B)|(refine hB ?_;clear hA hB A B)|(refine hK _ ?_;clear hK K))|((first|((with_reducible refine gQ ?_);refine NCallQ.pureEq (hc) ?_)|(with_reducible refine NS.eq (hns) ?_))<;>(conv=>whnf))|refine dY ?_|refine eF ?_|((with_reducible refine gX ?_);refine z34 (by kernel_rfl) (by kernel_rfl) ?_)|(refine eG ?_;intro K hK;conv=>whnf)|(refine eH ?_;intro A B hA hB;conv=>whnf)|((with_reducible first|refine NIf.dec (fun _=>?_) (fun _=>?_)|refine NIf.both (fun _=>?_) (fun _=>?_))<;>(conv=>whnf))|((intro _;skip)<;>(conv=>whnf))))
      all_goals exact ⟨rfl,rfl⟩
theorem qj (c:UInt8):Lx.isSp c=decide (c.toNat=32∨c.toNat=9∨c.toNat=10):=by
  rw [Bool.eq_iff_iff];unfold Lx.isSp
  simp only [Bool.or_eq_true,beq_iff_eq,decide_eq_true_eq,← UInt8.toNat_inj,or_assoc]
  rfl
theorem rC (c:UInt8):Lx.isL c=decide (97≤c.toNat∧c.toNat≤122):=by
  rw [Bool.eq_iff_iff];unfold Lx.isL
  simp only [Bool.and_eq_true,decide_eq_true_eq]
theorem kW (c:UInt8):Lx.isD c=decide (48≤c.toNat∧c.toNat≤57):=by
  rw [Bool.eq_iff_iff];unfold Lx.isD
  simp only [Bool.and_eq_true,decide_eq_true_eq]
theorem qo (c:UInt8):Lx.notNl c=decide (c.toNat≠10):=by
  rw [Bool.eq_iff_iff];unfold Lx.notNl
  simp only [Bool.not_eq_true',beq_eq_false_iff_ne,decide_eq_true_eq,ne_eq,← UInt8.toNat_inj]
  rfl
theorem boolT {p:Prop} {_:Decidable p} (h:p):AV.bool true = .bool (decide p):=by rw [decide_eq_true h]
theorem boolF {p:Prop} {_:Decidable p} (h:¬ p):AV.bool false = .bool (decide p):=by rw [decide_eq_false h]
theorem boolIff {x:Bool} {p:Prop} {_:Decidable p} (h:x=true↔p):AV.bool x = .bool (decide p):=by
  cases x with
  | true=>exact boolT (h.1 rfl)
  | false=>exact boolF fun hp=>by cases h.2 hp
theorem pt (c:UInt8):Qz Tryz.prog 209 [.int .u8 c.toNat] [] fun r _=>r = .bool (Lx.isSp c):=by
  rw [qj]
  refine aB Tryz.func209 rfl (by decide) ?_
  repeat' first|(refine sxZ ?_;try clear hK K)|refine sxW ?_ ?_<;>intro _|(intro K hK _;conv=>whnf)
  all_goals first
    | exact boolT (by omega)
    | exact boolF (by omega)
    | exact boolIff (by simp only [decide_eq_true_eq];omega)
theorem kJ (c:UInt8):Qz Tryz.prog 211 [.int .u8 c.toNat] [] fun r _=>r = .bool (Lx.isL c):=by
  rw [rC]
  refine aB Tryz.func211 rfl (by decide) ?_
  repeat' first|(refine sxZ ?_;try clear hK K)|refine sxW ?_ ?_<;>intro _|(intro K hK _;conv=>whnf)
  all_goals first
    | exact boolT (by omega)
    | exact boolF (by omega)
    | exact boolIff (by simp only [decide_eq_true_eq];omega)
theorem mN (c:UInt8):Qz Tryz.prog 212 [.int .u8 c.toNat] [] fun r _=>r = .bool (Lx.isD c):=by
  rw [kW]
  refine aB Tryz.func212 rfl (by decide) ?_
  repeat' first|(refine sxZ ?_;try clear hK K)|refine sxW ?_ ?_<;>intro _|(intro K hK _;conv=>whnf)
  all_goals first
    | exact boolT (by omega)
    | exact boolF (by omega)
    | exact boolIff (by simp only [decide_eq_true_eq];omega)
theorem qF (c:UInt8):Qz Tryz.prog 210 [.int .u8 c.toNat] [] fun r _=>r = .bool (Lx.notNl c):=by
  rw [qo]
  refine aB Tryz.func210 rfl (by decide) ?_
  repeat' first|(refine sxZ ?_;try clear hK K)|refine sxW ?_ ?_<;>intro _|(intro K hK _;conv=>whnf)
  all_goals first
    | exact boolT (by omega)
    | exact boolF (by omega)
    | exact boolIff (by simp only [Bool.not_eq_true',decide_eq_false_iff_not];omega)
end Go.Proofs.YtmehinfgdcmmjaaGreatDoor
